/- Of the text PTreeWholex4 only what this claim needs (shake.py, this repo's). -/
import Derived.Test.YtgjlkplieoajlaaZPTreeWholex0
namespace Go.Proofs.Ytgjlkplieoajlaa.PTreeWhole
open Go.RowKit Go.Proofs.YtgjlkplieoajlaaW.PrintWords Go.Proofs.YtgjlkplieoajlaaW.PrintLast Go.Proofs.YtgjlkplieoajlaaW.PrintMore
attribute [local go_sem] max2_int min2_int max_two min_two max_three min_three max_four min_four   -- for this text's walks alone
set_option linter.unusedVariables false
set_option linter.unusedSimpArgs false

-- NOT PRINTED: function 18 (tree_node_Add)

-- NOT PRINTED: function 5 (tree_New)

def handle_parts.f (a0 : Int) : Option (Int × Int × Int) := some (a0 / 1099511627776, Go.bits .and .i64 (a0 / 1048576) 1048575, Go.bits .and .i64 a0 1048575)
set_option maxHeartbeats 8000000 in
set_option maxRecDepth 100000 in
theorem handle_parts.calls (a0 : Int) (r1 : Int) (r2 : Int) (r3 : Int) (w : World) (h : handle_parts.f a0 = some (r1, r2, r3)) :
    Calls Try.prog 32 #[.int .i64 a0] w fun e w' => e = .returned (.tuple #[.int .i64 r1, .int .i64 r2, .int .i64 r3]) ∧ Drawn0 w w' := by
  have H : (some (a0 / 1099511627776, Go.bits .and .i64 (a0 / 1048576) 1048575, Go.bits .and .i64 a0 1048575)) = some (r1, r2, r3) := h
  clear h
  simp only [Option.some.injEq, Prod.mk.injEq] at H
  obtain ⟨rfl, rfl, rfl⟩ := H
  go_enter Try.func32, Try.ntmps32
  go_wp2
  go_ret3
  exact ⟨by first | rfl | (simp; done) | (simp [*]; done), by repeat (first | exact Drawn0.refl _ | apply Drawn0.step)⟩

end Go.Proofs.Ytgjlkplieoajlaa.PTreeWhole
