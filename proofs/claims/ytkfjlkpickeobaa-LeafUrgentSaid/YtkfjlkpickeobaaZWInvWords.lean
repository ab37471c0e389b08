/- Of the text WInvWords only what this claim needs (shake.py, this repo's). -/
import Derived.Test.YtkfjlkpickeobaaZWInv
import Derived.Test.YtkfjlkpickeobaaZWFootNe
namespace Go.Proofs.YtkfjlkpickeobaaW.PrintWords
open Go.RowKit
end Go.Proofs.YtkfjlkpickeobaaW.PrintWords
namespace Go.Proofs.YtkfjlkpickeobaaW.PrintLast
section
variable {ops : Array Oper} {a : Act} {o og : Oper} {g : Nat} {t : Tmp} {u : Bool}
end
end Go.Proofs.YtkfjlkpickeobaaW.PrintLast
