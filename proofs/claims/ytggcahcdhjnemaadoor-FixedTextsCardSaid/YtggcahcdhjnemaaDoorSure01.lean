/- tithelaw01.sure: what must come whatever the input is. -/
import Derived.Test.YtggcahcdhjnemaaDoorFixed1
import Derived.Test.YtggcahcdhjnemaaDoorText
set_option linter.unusedVariables false
set_option linter.unusedSimpArgs false
namespace Go.Proofs.YtggcahcdhjnemaaDoor
open Go.RowKit

theorem textL_half : textL 524288 = [48, 46, 53] := by decide +kernel

theorem sure01 (w : World) : Calls Tryd.prog 23 #[] w fun e w' => e = .returned (.bool true) ∧ Below w.heap.size w w' := by
  have hu : unitsOf 1 3 = 349526 := by decide
  go_enter Tryd.func23, Tryd.ntmps23
  go_wp2_with fail
  refine (share_ok 1 3 _ (by decide)).mono ?_
  rintro e w1 ⟨rfl, hb1⟩
  rw [hu]
  go_wp2_with fail
  refine (text_ok 524288 _ (by decide)).mono ?_
  rintro e w2 ⟨rfl, hb2⟩
  rw [textL_half]
  go_wp2
  go_ret
  exact ⟨rfl, hb1.trans (hb2.mono hb1.size)⟩

end Go.Proofs.YtggcahcdhjnemaaDoor
