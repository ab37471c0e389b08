/- Of the text WEqStruct only what this claim needs (shake.py, this repo's). -/
import Derived.Test.YtgjlkplieoajlaaZWWords
import Derived.Laws.StructEq
namespace Go.Proofs.YtgjlkplieoajlaaW.PrintWords
open Go.RowKit
section
variable {P : Program} {d : Nat} {xs ys : Array Value} {f : Field} {fs : List Field} {a b : Value} {r s : Bool} {w : World}
end
end Go.Proofs.YtgjlkplieoajlaaW.PrintWords
