/- The walk of BudgetTakes in every case: the call returns true. -/
import Derived.Test.YtggcahcdhjnemaaDoorBud5
import Derived.Test.YtggcahcdhjnemaaDoorNum07
import Derived.Test.YtggcahcdhjnemaaDoorLaw07b
import Derived.Test.YtggcahcdhjnemaaDoorLaw07c
import Derived.Test.YtggcahcdhjnemaaDoorLaw07d
import Derived.Test.YtggcahcdhjnemaaDoorLaw07e
import Derived.Test.YtggcahcdhjnemaaDoorLaw07f
set_option linter.unusedVariables false
set_option linter.unusedSimpArgs false
namespace Go.Proofs.YtggcahcdhjnemaaDoor
open Go.RowKit

theorem takes_any (nq np xq xp : Int) (dy : Bool) (lf st en : Int) (w : World) (hL : Laid w) :
    Calls Tryd.prog 5 #[bud nq np xq xp dy lf st en] w fun e w' => e = .returned (.bool true) ∧ Below w.heap.size w w' := by
  by_cases h : BV nq np xq xp lf st en
  · by_cases h0 : lf = 0
    · subst h0
      cases dy
      · exact takes_nook nq np xq xp st en w hL h
      · exact takes_nody nq np xq xp st en w hL h
    · cases dy
      · exact takes_okok nq np xq xp lf st en w hL h h0
      · exact takes_okdy nq np xq xp lf st en w hL h h0
  · exact takes_bad nq np xq xp dy lf st en w hL h

end Go.Proofs.YtggcahcdhjnemaaDoor
