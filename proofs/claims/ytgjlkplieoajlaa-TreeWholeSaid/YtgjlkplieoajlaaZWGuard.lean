/- Of the text WGuard only what this claim needs (shake.py, this repo's). -/
import Derived.Test.YtgjlkplieoajlaaZWWords
namespace Go.Proofs.YtgjlkplieoajlaaW.PrintWords
open Go.RowKit
section
variable {P : Program} {ops : Array Oper} {rest : List Oper} {o : Oper} {a : Act} {Q : Exit → Act → World → Prop} {W : World}
end
end Go.Proofs.YtgjlkplieoajlaaW.PrintWords
