/- Of the text WTab only what this claim needs (shake.py, this repo's). -/
import Derived.Test.YtkfjlkpickeobaaZWLast
import Derived.Test.YtkfjlkpickeobaaZWWords
namespace Go.Proofs.YtkfjlkpickeobaaW.PrintLast
open Go.Proofs.YtkfjlkpickeobaaW.PrintWords (Aside0)
section
variable {md : Region.Mode} {ops : Array Oper} {T : Bool × List (List Nat × List Nat)} {l l' li lj lk : Array Bool} {ds : List Nat} {i j k : Nat}
end
end Go.Proofs.YtkfjlkpickeobaaW.PrintLast
