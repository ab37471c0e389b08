/- Of the text PTaskRunsx4 only what this claim needs (shake.py, this repo's). -/
import Derived.Test.YtkfjlkpickeobaaDoorZPTaskRunsx0
import Derived.Test.YtkfjlkpickeobaaDoorZPTaskRunsx1
import Derived.Test.YtkfjlkpickeobaaDoorZPTaskRunsx2
namespace Go.Proofs.YtkfjlkpickeobaaDoor.PTaskRuns
open Go.RowKit Go.Proofs.YtkfjlkpickeobaaDoorW.PrintWords Go.Proofs.YtkfjlkpickeobaaDoorW.PrintLast Go.Proofs.YtkfjlkpickeobaaDoorW.PrintMore
attribute [local go_sem] max2_int min2_int max_two min_two max_three min_three max_four min_four   -- for this text's walks alone
set_option linter.unusedVariables false
set_option linter.unusedSimpArgs false

attribute [local go_sem high] eqA24 eqA28
end Go.Proofs.YtkfjlkpickeobaaDoor.PTaskRuns
