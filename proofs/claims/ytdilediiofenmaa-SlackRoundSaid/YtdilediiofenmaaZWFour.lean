/- Of the text WFour only what this claim needs (shake.py, this repo's). -/
import Derived.Test.YtdilediiofenmaaZWTab
namespace Go.Proofs.YtdilediiofenmaaW.PrintLast
section
variable {P : Program} {ops : Array Oper} {Q : Exit → Act → World → Prop} {md : Region.Mode} {S : World → Prop} {ds : List Nat} {T : Bool × List (List Nat × List Nat)}
end
end Go.Proofs.YtdilediiofenmaaW.PrintLast
