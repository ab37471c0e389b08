/- The loop of BudgetPeriods: its body, taken out of the translation. -/
import Derived.Test.YtggcahcdhjnemaaBudP1
set_option linter.unusedVariables false
set_option linter.unusedSimpArgs false
namespace Go.Proofs.Ytggcahcdhjnemaa
open Go.RowKit
set_option maxRecDepth 1000000

def firstLoop : Code → Option Code
  | .loop c => some c
  | .seq a b => match firstLoop a with
    | some c => some c
    | none => firstLoop b
  | .block _ c => firstLoop c
  | .scope c => firstLoop c
  | .cond _ a b => match firstLoop a with
    | some c => some c
    | none => firstLoop b
  | _ => none
noncomputable def bodyP : Code := ((Try.f4.body.bind firstLoop).getD .skip)

/-- What is asked of a round that returns; no other exit is let. -/
def retPost (Q1 : Act → World → Prop) : Exit → Act → World → Prop := fun e a w => match e with
  | .ret => Q1 a w
  | _ => False
theorem wp_ret {P : Program} {c : Code} {R : Act → World → Prop} {Q : Exit → Act → World → Prop} {a : Act} {w : World} (h : c.wp P (Exit.then R (retPost fun a w => Q .ret a w)) a w) : c.wp P (Exit.then R Q) a w := by
  refine Code.wp_mono ?_ h
  intro e a1 w1 h1
  cases e with
  | normal => exact h1
  | ret => exact h1
  | _ => exact h1.elim
end Go.Proofs.Ytggcahcdhjnemaa
