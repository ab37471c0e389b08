/- Of the text PTreeWholex0 only what this claim needs (shake.py, this repo's). -/
import Derived.Test.YtgjlkplieoajlaaProg
import Derived.Below
import Derived.Deep.Draws
import Derived.Deep.AppendLies
import Derived.Maps.AppendAt
import Derived.OwnWalk
import Derived.Laws.BytesArg
import Derived.Laws.MakeOwn
import Derived.Laws.OwnMore
import Derived.Deep.OwnRows
import Derived.Tactics
import Derived.Lib.ConvBytes
import Derived.Laws.Slices
import Derived.WalkKit
import Derived.KernelRfl
import Derived.RowKit3
import Derived.Deep.LoopGhost
import Derived.Deep.QuietTactic
import Derived.BigQuiet
import Derived.WideLaws
import Derived.Deep.DeepCutAuto
import Derived.Deep.CutBlock
import Derived.Deep.RegionHeld3
import Derived.Laws.Rows
import Derived.Lib.AppendStr
import Derived.ArgAppend
import Derived.Laws.IdiomCopy
import Derived.OrdersHeld
import Derived.Laws.BitsLemmas
import Derived.RowKit
import Derived.Test.YtgjlkplieoajlaaZWWords
import Derived.Test.YtgjlkplieoajlaaZWLast
import Derived.Test.YtgjlkplieoajlaaZWTab
import Derived.Test.YtgjlkplieoajlaaZWFour
import Derived.Test.YtgjlkplieoajlaaZWQPut
import Derived.Test.YtgjlkplieoajlaaZWApart
import Derived.Test.YtgjlkplieoajlaaZWArr
import Derived.Test.YtgjlkplieoajlaaZWZeros
import Derived.Test.YtgjlkplieoajlaaZWFoot
import Derived.Test.YtgjlkplieoajlaaZWKept
import Derived.Test.YtgjlkplieoajlaaZWShare
import Derived.Test.YtgjlkplieoajlaaZWN
import Derived.Test.YtgjlkplieoajlaaZWFootNe
import Derived.Test.YtgjlkplieoajlaaZWAt
import Derived.Test.YtgjlkplieoajlaaZWEqStruct
import Derived.Test.YtgjlkplieoajlaaZWRepsOne
import Derived.Test.YtgjlkplieoajlaaZWInv
import Derived.Test.YtgjlkplieoajlaaZWInvWords
import Derived.Test.YtgjlkplieoajlaaZWGuard
import Derived.Test.YtgjlkplieoajlaaZWNEv
import Derived.Test.YtgjlkplieoajlaaZWMore
namespace Go.Proofs.Ytgjlkplieoajlaa.PTreeWhole
open Go.RowKit Go.Proofs.YtgjlkplieoajlaaW.PrintWords Go.Proofs.YtgjlkplieoajlaaW.PrintLast Go.Proofs.YtgjlkplieoajlaaW.PrintMore
attribute [local go_sem] max2_int min2_int max_two min_two max_three min_three max_four min_four   -- for this text's walks alone
set_option linter.unusedVariables false
set_option linter.unusedSimpArgs false

def errW : Option Int → Value
  | none => .nilIface
  | some c => .iface 55 (.int .i64 c)
theorem errW_none : errW none = .nilIface := rfl
theorem errW_some (c : Int) : errW (some c) = .iface 55 (.int .i64 c) := rfl

-- the values' own types
end Go.Proofs.Ytgjlkplieoajlaa.PTreeWhole
