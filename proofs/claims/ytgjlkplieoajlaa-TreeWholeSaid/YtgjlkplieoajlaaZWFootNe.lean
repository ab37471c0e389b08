/- Of the text WFootNe only what this claim needs (shake.py, this repo's). -/
import Derived.Test.YtgjlkplieoajlaaZWN
namespace Go.Proofs.YtgjlkplieoajlaaW.PrintWords
open Go.RowKit
namespace Kd
section
variable {α : Type} {d : Kd α} {W : World} {g n : Nat} {S ok : Nat → Prop} {A : Option Addr} {ad : Addr} {xs : List α}
end
end Kd
end Go.Proofs.YtgjlkplieoajlaaW.PrintWords
