/- Of the text WFour only what this claim needs (shake.py, this repo's). -/
import Derived.Test.YtgjlkplieoajlaaZWTab
namespace Go.Proofs.YtgjlkplieoajlaaW.PrintLast
section
variable {P : Program} {ops : Array Oper} {Q : Exit → Act → World → Prop} {md : Region.Mode} {S : World → Prop} {ds : List Nat} {T : Bool × List (List Nat × List Nat)}
end
end Go.Proofs.YtgjlkplieoajlaaW.PrintLast
