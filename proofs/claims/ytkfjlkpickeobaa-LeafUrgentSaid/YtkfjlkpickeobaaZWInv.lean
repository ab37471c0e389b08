/- Of the text WInv only what this claim needs (shake.py, this repo's). -/
import Derived.Test.YtkfjlkpickeobaaZWTab
namespace Go.Proofs.YtkfjlkpickeobaaW.PrintLast
section
variable {P : Program} {ops : Array Oper} {Q : Exit → Act → World → Prop} {md : Region.Mode} {T : Bool × List (List Nat × List Nat)} {B : List Nat} {O : List Nat} {b : Nat → Bool} {i j n : Nat}
end
end Go.Proofs.YtkfjlkpickeobaaW.PrintLast
