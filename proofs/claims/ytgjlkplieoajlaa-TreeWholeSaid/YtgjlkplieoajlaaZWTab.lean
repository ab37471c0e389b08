/- Of the text WTab only what this claim needs (shake.py, this repo's). -/
import Derived.Test.YtgjlkplieoajlaaZWLast
import Derived.Test.YtgjlkplieoajlaaZWWords
namespace Go.Proofs.YtgjlkplieoajlaaW.PrintLast
open Go.Proofs.YtgjlkplieoajlaaW.PrintWords (Aside0)
section
variable {md : Region.Mode} {ops : Array Oper} {T : Bool × List (List Nat × List Nat)} {l l' li lj lk : Array Bool} {ds : List Nat} {i j k : Nat}
end
end Go.Proofs.YtgjlkplieoajlaaW.PrintLast
