/- Of the text WInv only what this claim needs (shake.py, this repo's). -/
import Derived.Test.YtgjlkplieoajlaaZWTab
namespace Go.Proofs.YtgjlkplieoajlaaW.PrintLast
/-- Number i is listed too. -/
def up (b : Nat → Bool) (i : Nat) : Nat → Bool := fun j => if j = i then true else b j
section
variable {P : Program} {ops : Array Oper} {Q : Exit → Act → World → Prop} {md : Region.Mode} {T : Bool × List (List Nat × List Nat)} {B : List Nat} {O : List Nat} {b : Nat → Bool} {i j n : Nat}
end
end Go.Proofs.YtgjlkplieoajlaaW.PrintLast
