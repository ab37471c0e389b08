/- Of the text WTab only what this claim needs (shake.py, this repo's). -/
import Derived.Test.YtdilediiofenmaaZWLast
import Derived.Test.YtdilediiofenmaaZWWords
namespace Go.Proofs.YtdilediiofenmaaW.PrintLast
open Go.Proofs.YtdilediiofenmaaW.PrintWords (Aside0)
section
variable {md : Region.Mode} {ops : Array Oper} {T : Bool × List (List Nat × List Nat)} {l l' li lj lk : Array Bool} {ds : List Nat} {i j k : Nat}
end
end Go.Proofs.YtdilediiofenmaaW.PrintLast
