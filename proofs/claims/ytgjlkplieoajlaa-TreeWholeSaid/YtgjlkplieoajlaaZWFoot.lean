/- Of the text WFoot only what this claim needs (shake.py, this repo's). -/
import Derived.Test.YtgjlkplieoajlaaZWApart
import Derived.Test.YtgjlkplieoajlaaZWArr
namespace Go.Proofs.YtgjlkplieoajlaaW.PrintWords
open Go.RowKit
namespace Kd
section
variable {α : Type} {d : Kd α} {e base g n c : Nat} {ok : Nat → Prop} {w w0 W : World} {A : Option Addr} {xs : List α}
end
end Kd
end Go.Proofs.YtgjlkplieoajlaaW.PrintWords
