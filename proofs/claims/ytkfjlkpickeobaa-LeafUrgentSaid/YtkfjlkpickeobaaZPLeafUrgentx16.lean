/- Of the text PLeafUrgentx16 only what this claim needs (shake.py, this repo's). -/
import Derived.Test.YtkfjlkpickeobaaZPLeafUrgentx0
namespace Go.Proofs.Ytkfjlkpickeobaa.PLeafUrgent
open Go.RowKit Go.Proofs.YtkfjlkpickeobaaW.PrintWords Go.Proofs.YtkfjlkpickeobaaW.PrintLast Go.Proofs.YtkfjlkpickeobaaW.PrintMore
attribute [local go_sem] max2_int min2_int max_two min_two max_three min_three max_four min_four   -- for this text's walks alone
set_option linter.unusedVariables false
set_option linter.unusedSimpArgs false

-- NOT PRINTED: function 22 (api_Task_Add)

-- NOT PRINTED: function 9 (leaf_Leaf_Add)

-- NOT PRINTED: function 23 (api_Task_Drop)

-- NOT PRINTED: function 10 (leaf_Leaf_Drop)

-- NOT PRINTED: function 24 (task_Push)

-- NOT PRINTED: function 11 (leaf_Leaf_Push)

def titheref03_Make.f (a0 : Int) (a1 : Int) (a2 : Int) : Option (Int) := some (Go.bits .or .i64 (Go.bits .or .i64 (wrap64 (a0 * 1099511627776)) (wrap64 (a1 * 1048576))) a2)
set_option maxHeartbeats 8000000 in
set_option maxRecDepth 100000 in
theorem titheref03_Make.calls (a0 : Int) (a1 : Int) (a2 : Int) (r : Int) (w : World) (h : titheref03_Make.f a0 a1 a2 = some r) :
    Calls Try.prog 25 #[.int .i64 a0, .int .i64 a1, .int .i64 a2] w fun e w' => e = .returned (.int .i64 r) ∧ Drawn0 w w' := by
  have H : (some (Go.bits .or .i64 (Go.bits .or .i64 (wrap64 (a0 * 1099511627776)) (wrap64 (a1 * 1048576))) a2)) = some r := h
  clear h
  obtain rfl := Option.some.inj H
  go_enter Try.func25, Try.ntmps25
  go_wp2
  go_ret
  exact ⟨by first | rfl | (simp; done) | (simp [*]; done), by repeat (first | exact Drawn0.refl _ | apply Drawn0.step)⟩

-- NOT PRINTED: function 12 (tithelaw13_sure)

-- NOT PRINTED: function 3 (tithelaw13_LeafUrgent)

end Go.Proofs.Ytkfjlkpickeobaa.PLeafUrgent
