/- Of the text WEqStruct only what this claim needs (shake.py, this repo's). -/
import Derived.Test.YtdilediiofenmaaZWWords
import Derived.Laws.StructEq
namespace Go.Proofs.YtdilediiofenmaaW.PrintWords
open Go.RowKit
section
variable {P : Program} {d : Nat} {xs ys : Array Value} {f : Field} {fs : List Field} {a b : Value} {r s : Bool} {w : World}
end
end Go.Proofs.YtdilediiofenmaaW.PrintWords
