/- Of the text WInvWords only what this claim needs (shake.py, this repo's). -/
import Derived.Test.YtgjlkplieoajlaaZWInv
import Derived.Test.YtgjlkplieoajlaaZWFootNe
namespace Go.Proofs.YtgjlkplieoajlaaW.PrintWords
open Go.RowKit
end Go.Proofs.YtgjlkplieoajlaaW.PrintWords
namespace Go.Proofs.YtgjlkplieoajlaaW.PrintLast
section
variable {ops : Array Oper} {a : Act} {o og : Oper} {g : Nat} {t : Tmp} {u : Bool}
end
end Go.Proofs.YtgjlkplieoajlaaW.PrintLast
