/- The reference's Valid of budgets, by contract. -/
import Derived.Test.YtggcahcdhjnemaaBud1
set_option linter.unusedVariables false
set_option linter.unusedSimpArgs false
namespace Go.Proofs.Ytggcahcdhjnemaa
open Go.RowKit
attribute [local go_sem high] eqRes




end Go.Proofs.Ytggcahcdhjnemaa
