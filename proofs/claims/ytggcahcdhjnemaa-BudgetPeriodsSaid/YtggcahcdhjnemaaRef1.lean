/- The reference's Units, Share, Most, Compare, by contract. -/
import Derived.Test.YtggcahcdhjnemaaFixed2
set_option linter.unusedVariables false
set_option linter.unusedSimpArgs false
namespace Go.Proofs.Ytggcahcdhjnemaa
open Go.RowKit

theorem runits_ok (q p : Int) (w : World) (h : Vld q p) :
    Calls Try.prog 13 #[.agg #[.int .i64 q, .int .i64 p]] w fun e w' => e = .returned (.int .i64 (unitsOf q p)) ∧ Below w.heap.size w w' := by
  have h1 := h.lo; have h2 := h.top; have h3 := h.le
  go_enter Try.func13, Try.ntmps13
  go_wp2
  go_ret
  exact ⟨rfl, (Below.refl _ _).alloc (Nat.le_refl _) _⟩




theorem badArg {u : Int} (h : ¬ (0 ≤ u ∧ u ≤ 1048576)) : decide (u < 0) = true ∨ (decide (u < 0) = false ∧ decide (1048576 < u) = true) := by
  simp only [decide_eq_true_eq, decide_eq_false_iff_not]
  omega
theorem badPer {p : Int} (h : ¬ (1 ≤ p ∧ p ≤ 1048576)) : decide (p < 1) = true ∨ (decide (p < 1) = false ∧ decide (1048576 < p) = true) := by
  simp only [decide_eq_true_eq, decide_eq_false_iff_not]
  omega




end Go.Proofs.Ytggcahcdhjnemaa
