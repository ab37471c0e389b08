/- Of the text WInv only what this claim needs (shake.py, this repo's). -/
import Derived.Test.YtdilediiofenmaaZWTab
namespace Go.Proofs.YtdilediiofenmaaW.PrintLast
section
variable {P : Program} {ops : Array Oper} {Q : Exit → Act → World → Prop} {md : Region.Mode} {T : Bool × List (List Nat × List Nat)} {B : List Nat} {O : List Nat} {b : Nat → Bool} {i j n : Nat}
end
end Go.Proofs.YtdilediiofenmaaW.PrintLast
