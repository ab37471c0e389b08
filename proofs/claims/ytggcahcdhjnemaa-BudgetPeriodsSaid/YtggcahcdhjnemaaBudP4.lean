/- BudgetPeriods: the call returns true, whatever comes. -/
import Derived.Test.YtggcahcdhjnemaaBudR
import Derived.Test.YtggcahcdhjnemaaBudP3
set_option linter.unusedVariables false
namespace Go.Proofs.Ytggcahcdhjnemaa
open Go.RowKit
set_option maxRecDepth 100000

theorem per_any (q p at_ : Int) (a : Option Addr) (len cap : Nat) (w : World) (hm : len ≤ maxLen)
    (hc : len = 0 ∨ ∃ b o, a = some ⟨b, o, none⟩ ∧ ∀ i, i < len → ∃ kd rq rp : Int, w.cell? ⟨b, o + i * 3, none⟩ = some (.int .i64 kd) ∧ w.cell? ⟨b, o + i * 3 + 1, none⟩ = some (.int .i64 rq) ∧ w.cell? ⟨b, o + i * 3 + 2, none⟩ = some (.int .i64 rp)) :
    Calls Try.prog 4 #[.agg #[.int .i64 q, .int .i64 p], .int .i64 at_, .slice a len cap] w fun e w' => e = .returned (.bool true) ∧ Below w.heap.size w w' := by
  by_cases hv : Vld q p
  · by_cases h0 : at_ < 0
    · exact per_err_at q p at_ a len cap w hv (Or.inl h0)
    · by_cases h1 : 1073741824 < at_
      · exact per_err_at q p at_ a len cap w hv (Or.inr ⟨h0, h1⟩)
      · exact per_ok q p at_ a len cap w hm (by omega) (by omega) hv hc
  · exact per_err_bad q p at_ a len cap w hv
end Go.Proofs.Ytggcahcdhjnemaa
