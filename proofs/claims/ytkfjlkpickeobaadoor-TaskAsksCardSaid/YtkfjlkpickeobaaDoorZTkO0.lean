/- Of the text TkO0 only what this claim needs (shake.py, this repo's). -/
import Derived.Test.YtkfjlkpickeobaaDoorZTmD
set_option linter.unusedVariables false
set_option linter.unusedSimpArgs false
namespace Go.Proofs.YtkfjlkpickeobaaDoor
open Go.RowKit
open Go.Proofs.YtkfjlkpickeobaaDoorW.PrintWords (Kd Drawn0 Kept rd rdOf ReadsRow)
open Go.Proofs.YtkfjlkpickeobaaDoor.PTaskRuns
set_option maxRecDepth 100000

section
variable {wm W : World} {P Q : Tk} {Aa Ab : Option Addr} {ca cb ea ba eb bb : Nat}
/-- What lies below an elder world's height stays. -/
def BMW (W W0 : World) : Prop := Below W0.heap.size W0 W
theorem BMW.below {W0 W' : World} (h : BMW W W0) (hb : Below W.heap.size W W') : BMW W' W0 := below_call h (Nat.le_refl _) hb
theorem BMW.alloc {W0 : World} (h : BMW W W0) (o : Obj) : BMW (W.alloc o) W0 := h.below ((Below.refl _ W).alloc (Nat.le_refl _) o)
end
end Go.Proofs.YtkfjlkpickeobaaDoor
