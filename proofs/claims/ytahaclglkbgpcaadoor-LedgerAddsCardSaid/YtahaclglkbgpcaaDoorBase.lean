/- Small words used by all texts of this seat. -/
import Derived.Test.YtahaclglkbgpcaaDoorProg
import Derived.WalkKit
import Derived.Lib.Hide
import Derived.Deep.QuietTactic
import Derived.BigQuiet
import Derived.IntWalk
import Derived.Deep.RegionHeld3
set_option linter.unusedVariables false
namespace Go.Proofs.YtahaclglkbgpcaaDoor
open Go.RowKit

/-- What a callee leaves: every old cell and every old mark reads as before. -/
theorem bcell {W w1 : World} (hb : Below W.heap.size W w1) : (∀ b o, b < W.heap.size → w1.cell? ⟨b, o, none⟩ = W.cell? ⟨b, o, none⟩) ∧ (∀ b o, b < W.heap.size → w1.frozen? ⟨b, o, none⟩ = W.frozen? ⟨b, o, none⟩) :=
  ⟨fun b o h => hb.cell (p := ⟨b, o, none⟩) h, fun b o h => hb.frozen (p := ⟨b, o, none⟩) h⟩

/-- A cell that is there stays there behind a callee. -/
theorem keep {W w1 : World} (hb : Below W.heap.size W w1) {b o : Nat} {v : Value} (h : W.cell? ⟨b, o, none⟩ = some v) : w1.cell? ⟨b, o, none⟩ = some v := by
  rw [hb.cell (p := ⟨b, o, none⟩)]
  · exact h
  · rcases Nat.lt_or_ge b W.heap.size with k | k
    · exact k
    · simp [World.cell?, Array.getElem?_eq_none k] at h

theorem keepf {W w1 : World} (hb : Below W.heap.size W w1) {b o : Nat} {v : Bool} (hlt : b < W.heap.size) (h : W.frozen? ⟨b, o, none⟩ = v) : w1.frozen? ⟨b, o, none⟩ = v := by
  rw [hb.frozen (p := ⟨b, o, none⟩) hlt]; exact h

theorem below_alloc {B : Nat} {a w : World} (h : Below B a w) (hB : B ≤ a.heap.size) (o : Obj) : Below B a (w.alloc o) := h.alloc (Nat.le_trans hB h.size) o

theorem below_call {B : Nat} {a w w' : World} (h : Below B a w) (hB : B ≤ a.heap.size) (k : Below w.heap.size w w') : Below B a w' := h.trans (k.mono (Nat.le_trans hB h.size))

theorem below_drewN' {B : Nat} {a w : World} (h : Below B a w) (n : Nat) : Below B a (w.drewN n) := ⟨h.os, h.tape, h.output, h.size, h.block⟩

theorem ret_eq {a b : Value} (h : a = b) : Ending.returned a = .returned b := by rw [h]
theorem ret_int {k : IntKind} {a b : Int} (h : a = b) : Ending.returned (.int k a) = .returned (.int k b) := by rw [h]
theorem ret_bool {a b : Bool} (h : a = b) : Ending.returned (.bool a) = .returned (.bool b) := by rw [h]

/-- May a reservation be? -/
def Vld (q p : Int) : Prop := 1 ≤ q ∧ p ≤ 1048576 ∧ q ≤ p
theorem Vld.lo {q p : Int} (h : Vld q p) : 1 ≤ q := h.1
theorem Vld.top {q p : Int} (h : Vld q p) : p ≤ 1048576 := h.2.1
theorem Vld.le {q p : Int} (h : Vld q p) : q ≤ p := h.2.2
instance (q p : Int) : Decidable (Vld q p) := by unfold Vld; infer_instance
theorem notVld {q p : Int} (h : ¬ Vld q p) : decide (q < 1) = true ∨ (decide (q < 1) = false ∧ decide (1048576 < p) = true) ∨ (decide (q < 1) = false ∧ decide (1048576 < p) = false ∧ decide (p < q) = true) := by
  unfold Vld at h
  simp only [decide_eq_true_eq, decide_eq_false_iff_not]
  omega
theorem Vld.c1 {q p : Int} (h : Vld q p) : decide (q < 1) = false := by have := h.lo; simp; omega
theorem Vld.c2 {q p : Int} (h : Vld q p) : decide (1048576 < p) = false := by have := h.top; simp; omega
theorem Vld.c3 {q p : Int} (h : Vld q p) : decide (p < q) = false := by have := h.le; simp; omega

end Go.Proofs.YtahaclglkbgpcaaDoor
