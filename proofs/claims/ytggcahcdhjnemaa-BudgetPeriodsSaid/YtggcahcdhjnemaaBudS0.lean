/- The regions of BudgetPeriods' body, taken out of the translation. -/
import Derived.Test.YtggcahcdhjnemaaBudR0
import Derived.Test.YtggcahcdhjnemaaBud4
import Derived.Test.YtggcahcdhjnemaaBud5
import Derived.Test.YtggcahcdhjnemaaBud6
import Derived.Test.YtggcahcdhjnemaaBud7
import Derived.Test.YtggcahcdhjnemaaBudC
import Derived.Test.YtggcahcdhjnemaaBudD
import Derived.Test.YtggcahcdhjnemaaBudE
import Derived.Test.YtggcahcdhjnemaaBudF
import Derived.Deep.DeepCutAuto
import Derived.Deep.RegionWith
set_option linter.unusedVariables false
set_option linter.unusedSimpArgs false
namespace Go.Proofs.Ytggcahcdhjnemaa
open Go.RowKit
set_option maxRecDepth 1000000

def findReg (n : Nat) : Code → Option Code
  | .region k ops d => if k == n then some (.region k ops d) else none
  | .loop c => findReg n c
  | .seq a b => match findReg n a with
    | some c => some c
    | none => findReg n b
  | .block _ c => findReg n c
  | .scope c => findReg n c
  | .cond _ a b => match findReg n a with
    | some c => some c
    | none => findReg n b
  | _ => none
noncomputable def regP (n : Nat) : Code := ((Try.f4.body.bind (findReg n)).getD .skip)
theorem wp_normal {P : Program} {c : Code} {K : Act → World → Prop} {Q : Exit → Act → World → Prop} {a : Act} {w : World} (h : c.wp P (Exit.then K (retPost fun _ _ => False)) a w) : c.wp P (Exit.then K Q) a w := by
  refine Code.wp_mono ?_ h
  intro e a1 w1 h1
  cases e with
  | normal => exact h1
  | ret => exact h1.elim
  | _ => exact h1.elim
end Go.Proofs.Ytggcahcdhjnemaa
