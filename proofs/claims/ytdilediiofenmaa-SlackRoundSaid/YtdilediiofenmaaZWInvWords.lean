/- Of the text WInvWords only what this claim needs (shake.py, this repo's). -/
import Derived.Test.YtdilediiofenmaaZWInv
import Derived.Test.YtdilediiofenmaaZWFootNe
namespace Go.Proofs.YtdilediiofenmaaW.PrintWords
open Go.RowKit
end Go.Proofs.YtdilediiofenmaaW.PrintWords
namespace Go.Proofs.YtdilediiofenmaaW.PrintLast
section
variable {ops : Array Oper} {a : Act} {o og : Oper} {g : Nat} {t : Tmp} {u : Bool}
end
end Go.Proofs.YtdilediiofenmaaW.PrintLast
