/- Of the text WInvWords only what this claim needs (shake.py, this repo's). -/
import Derived.Test.YtkfjlkpickeobaaDoorZWInv
import Derived.Test.YtkfjlkpickeobaaDoorZWFootNe
namespace Go.Proofs.YtkfjlkpickeobaaDoorW.PrintWords
open Go.RowKit
end Go.Proofs.YtkfjlkpickeobaaDoorW.PrintWords
namespace Go.Proofs.YtkfjlkpickeobaaDoorW.PrintLast
section
variable {ops : Array Oper} {a : Act} {o og : Oper} {g : Nat} {t : Tmp} {u : Bool}
end
end Go.Proofs.YtkfjlkpickeobaaDoorW.PrintLast
