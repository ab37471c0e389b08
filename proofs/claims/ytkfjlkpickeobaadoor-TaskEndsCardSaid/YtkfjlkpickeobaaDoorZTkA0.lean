/- Of the text TkA0 only what this claim needs (shake.py, this repo's). -/
import Derived.Test.YtkfjlkpickeobaaDoorZPTaskRunsx0
import Derived.Test.YtkfjlkpickeobaaDoorProg
import Derived.Below
import Derived.Deep.Draws
import Derived.Deep.AppendLies
import Derived.Maps.AppendAt
import Derived.OwnWalk
import Derived.Laws.BytesArg
import Derived.Laws.MakeOwn
import Derived.Laws.OwnMore
import Derived.Deep.OwnRows
import Derived.Tactics
import Derived.Lib.ConvBytes
import Derived.Laws.Slices
import Derived.WalkKit
import Derived.KernelRfl
import Derived.RowKit3
import Derived.Deep.LoopGhost
import Derived.Deep.QuietTactic
import Derived.BigQuiet
import Derived.WideLaws
import Derived.Deep.DeepCutAuto
import Derived.Deep.CutBlock
import Derived.Deep.RegionHeld3
import Derived.Laws.Rows
import Derived.Lib.AppendStr
import Derived.ArgAppend
import Derived.Laws.IdiomCopy
import Derived.OrdersHeld
import Derived.Laws.BitsLemmas
import Derived.RowKit
import Derived.Test.YtkfjlkpickeobaaDoorZWWords
import Derived.Test.YtkfjlkpickeobaaDoorZWLast
import Derived.Test.YtkfjlkpickeobaaDoorZWTab
import Derived.Test.YtkfjlkpickeobaaDoorZWFour
import Derived.Test.YtkfjlkpickeobaaDoorZWQPut
import Derived.Test.YtkfjlkpickeobaaDoorZWApart
import Derived.Test.YtkfjlkpickeobaaDoorZWArr
import Derived.Test.YtkfjlkpickeobaaDoorZWZeros
import Derived.Test.YtkfjlkpickeobaaDoorZWFoot
import Derived.Test.YtkfjlkpickeobaaDoorZWKept
import Derived.Test.YtkfjlkpickeobaaDoorZWShare
import Derived.Test.YtkfjlkpickeobaaDoorZWN
import Derived.Test.YtkfjlkpickeobaaDoorZWFootNe
import Derived.Test.YtkfjlkpickeobaaDoorZWAt
import Derived.Test.YtkfjlkpickeobaaDoorZWEqStruct
import Derived.Test.YtkfjlkpickeobaaDoorZWRepsOne
import Derived.Test.YtkfjlkpickeobaaDoorZWInv
import Derived.Test.YtkfjlkpickeobaaDoorZWInvWords
import Derived.Test.YtkfjlkpickeobaaDoorZWGuard
import Derived.Test.YtkfjlkpickeobaaDoorZWNEv
import Derived.Test.YtkfjlkpickeobaaDoorZWMore
namespace Go.Proofs.YtkfjlkpickeobaaDoor.PTaskRuns
open Go.RowKit Go.Proofs.YtkfjlkpickeobaaDoorW.PrintWords Go.Proofs.YtkfjlkpickeobaaDoorW.PrintLast Go.Proofs.YtkfjlkpickeobaaDoorW.PrintMore
set_option linter.unusedVariables false
set_option linter.unusedSimpArgs false
structure S24 where
  f0 : Int
  f1 : Int
  f2 : Int
  f3 : Int
  f4 : Int
  f5 : Int
structure S26 where
  f0 : Int
  f1 : (List S28)
  f2 : S24
end Go.Proofs.YtkfjlkpickeobaaDoor.PTaskRuns
