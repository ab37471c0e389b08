/- Of the text PTaskRunsx13 only what this claim needs (shake.py, this repo's). -/
import Derived.Test.YtkfjlkpickeobaaDoorZPTaskRunsx0
namespace Go.Proofs.YtkfjlkpickeobaaDoor.PTaskRuns
open Go.RowKit Go.Proofs.YtkfjlkpickeobaaDoorW.PrintWords Go.Proofs.YtkfjlkpickeobaaDoorW.PrintLast Go.Proofs.YtkfjlkpickeobaaDoorW.PrintMore
attribute [local go_sem] max2_int min2_int max_two min_two max_three min_three max_four min_four   -- for this text's walks alone
set_option linter.unusedVariables false
set_option linter.unusedSimpArgs false

-- NOT PRINTED: function 63 (abi_NoEscape)

-- NOT PRINTED: function 60 (strings_Builder_copyCheck)

-- NOT PRINTED: function 48 (strings_Builder_WriteByte)

-- NOT PRINTED: function 51 (strings_Builder_String)

-- NOT PRINTED: function 26 (task_Show)

-- NOT PRINTED: function 15 (tithelaw12_works)

end Go.Proofs.YtkfjlkpickeobaaDoor.PTaskRuns
