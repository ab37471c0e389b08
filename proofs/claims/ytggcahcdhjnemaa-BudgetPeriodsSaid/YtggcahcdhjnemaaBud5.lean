/- The reference's Take and Delete; '==' of budgets; the law package's same and sure, by contract. -/
import Derived.Test.YtggcahcdhjnemaaBud4
set_option linter.unusedVariables false
set_option linter.unusedSimpArgs false
namespace Go.Proofs.Ytggcahcdhjnemaa
open Go.RowKit
attribute [local go_sem high] eqRes









theorem bv_sure : BV 2 5 0 0 2 10 15 := ⟨by decide, Or.inl ⟨rfl, rfl⟩, by decide, by decide, by decide, by decide, by decide⟩

theorem take_sure (w : World) : Calls Try.prog 14 #[bud 2 5 0 0 false 2 10 15] w fun e w' => e = .returned (.tuple #[bud 2 5 0 0 false 1 10 15, .nilIface]) ∧ Below w.heap.size w w' := btake_ok 2 5 0 0 false 2 10 15 w bv_sure (by decide)

set_option maxHeartbeats 2000000 in
set_option maxRecDepth 100000 in
theorem sure07 (w : World) : Calls Try.prog 11 #[] w fun e w' => e = .returned (.bool true) ∧ Below w.heap.size w w' := by
  go_enter Try.func11, Try.ntmps11
  go_wp2_with fail
  refine (bnew_ok 2 5 10 _ (by decide) (by decide) (by decide)).mono ?_
  rintro e w1 ⟨rfl, hb1⟩
  go_wp2_with fail
  refine (take_sure _).mono ?_
  rintro e w2 ⟨rfl, hb2⟩
  have hz := hb2.size
  simp at hz
  have c5 : (w2.alloc (.cells #[.int .i64 2, .int .i64 5, .int .i64 0, .int .i64 0, .bool false, .int .i64 1, .int .i64 10, .int .i64 15] 35)).cell? ⟨w1.heap.size, 5, none⟩ = some (.int .i64 2) := by
    rw [World.cell?_alloc_lt _ _ _ (by simp; omega), hb2.cell (p := ⟨w1.heap.size, 5, none⟩) (by simp)]; simp
  have c7 : (w2.alloc (.cells #[.int .i64 2, .int .i64 5, .int .i64 0, .int .i64 0, .bool false, .int .i64 1, .int .i64 10, .int .i64 15] 35)).cell? ⟨w1.heap.size, 7, none⟩ = some (.int .i64 15) := by
    rw [World.cell?_alloc_lt _ _ _ (by simp; omega), hb2.cell (p := ⟨w1.heap.size, 7, none⟩) (by simp)]; simp
  have HB : Below w.heap.size w w2 := (hb1.alloc hb1.size _).trans (hb2.mono (by have := hb1.size; simp; omega))
  have hs1 := hb1.size
  clear hb1 hb2
  go_wp2
  go_ret
  exact ⟨rfl, HB.alloc (by omega) _⟩

end Go.Proofs.Ytggcahcdhjnemaa
