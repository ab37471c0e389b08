/- Of the text WFoot only what this claim needs (shake.py, this repo's). -/
import Derived.Test.YtdilediiofenmaaZWApart
import Derived.Test.YtdilediiofenmaaZWArr
namespace Go.Proofs.YtdilediiofenmaaW.PrintWords
open Go.RowKit
namespace Kd
section
variable {α : Type} {d : Kd α} {e base g n c : Nat} {ok : Nat → Prop} {w w0 W : World} {A : Option Addr} {xs : List α}
end
end Kd
end Go.Proofs.YtdilediiofenmaaW.PrintWords
