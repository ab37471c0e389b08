/- budget.Cross where it crosses, by contract. -/
import Derived.Test.YtggcahcdhjnemaaBudC
import Derived.Deep.DeepCutAuto
import Derived.Deep.CutBlock
import Derived.StillTailTactics
set_option linter.unusedVariables false
set_option linter.unusedSimpArgs false
namespace Go.Proofs.Ytggcahcdhjnemaa
open Go.RowKit
attribute [local go_sem high] eqRes

set_option maxHeartbeats 8000000 in
set_option maxRecDepth 100000 in
theorem bcr_same (mq mp : Int) (lf st en : Int) (w : World) (h : BV mq mp 0 0 lf st en) (ht : en ≤ 1073741824) :
    Calls Try.prog 17 #[bud mq mp 0 0 false lf st en, .int .i64 en] w fun e w' => e = .returned (.tuple #[.agg #[.int .i64 mq, .int .i64 mp, .int .i64 0, .int .i64 0, .bool false, .int .i64 mq, .int .i64 en, .int .i64 (en + mp)], .bool false, .nilIface]) ∧ Below w.heap.size w w' := by
  have ht1 : decide (1073741824 < en) = false := by simp; omega
  have hv1 := h.1.lo; have hv2 := h.1.top; have hv3 := h.1.le
  have hen : -1 < en := by have := h.2.2.2.2.2.2; have := h.2.2.2.2.1; omega
  have HB : Below w.heap.size w ((((((w.alloc (.cells #[.int .i64 mq, .int .i64 mp, .int .i64 0, .int .i64 0, .bool false, .int .i64 lf, .int .i64 st, .int .i64 en] 35)).alloc (.cells #[.int .i64 en] 3)).alloc (.cells #[.int .i64 0, .int .i64 0, .int .i64 0, .int .i64 0, .bool false, .int .i64 0, .int .i64 0, .int .i64 0] 35)).alloc (.cells #[.bool false] 4)).alloc (.cells #[.int .i64 mq, .int .i64 mp, .int .i64 0, .int .i64 0, .bool false, .int .i64 lf, .int .i64 st, .int .i64 en] 35)).alloc (.cells #[.int .i64 0, .int .i64 0, .int .i64 0, .int .i64 0, .bool false, .int .i64 0, .int .i64 0, .int .i64 0] 35)) := (((((((Below.refl _ w).alloc (by simp) _).alloc (by simp) _).alloc (by simp; omega) _).alloc (by simp; omega) _).alloc (by simp; omega) _).alloc (by simp; omega) _)
  have k0_0 : ((((((w.alloc (.cells #[.int .i64 mq, .int .i64 mp, .int .i64 0, .int .i64 0, .bool false, .int .i64 lf, .int .i64 st, .int .i64 en] 35)).alloc (.cells #[.int .i64 en] 3)).alloc (.cells #[.int .i64 0, .int .i64 0, .int .i64 0, .int .i64 0, .bool false, .int .i64 0, .int .i64 0, .int .i64 0] 35)).alloc (.cells #[.bool false] 4)).alloc (.cells #[.int .i64 mq, .int .i64 mp, .int .i64 0, .int .i64 0, .bool false, .int .i64 lf, .int .i64 st, .int .i64 en] 35)).alloc (.cells #[.int .i64 0, .int .i64 0, .int .i64 0, .int .i64 0, .bool false, .int .i64 0, .int .i64 0, .int .i64 0] 35)).cell? ⟨w.heap.size, 0, none⟩ = some (.int .i64 mq) := by rw [World.cell?_alloc_lt _ _ _ (by simp <;> omega), World.cell?_alloc_lt _ _ _ (by simp <;> omega), World.cell?_alloc_lt _ _ _ (by simp <;> omega), World.cell?_alloc_lt _ _ _ (by simp <;> omega), World.cell?_alloc_lt _ _ _ (by simp <;> omega), World.cell?_alloc_at _ _ _ _ (by simp)]; rfl
  have k0_1 : ((((((w.alloc (.cells #[.int .i64 mq, .int .i64 mp, .int .i64 0, .int .i64 0, .bool false, .int .i64 lf, .int .i64 st, .int .i64 en] 35)).alloc (.cells #[.int .i64 en] 3)).alloc (.cells #[.int .i64 0, .int .i64 0, .int .i64 0, .int .i64 0, .bool false, .int .i64 0, .int .i64 0, .int .i64 0] 35)).alloc (.cells #[.bool false] 4)).alloc (.cells #[.int .i64 mq, .int .i64 mp, .int .i64 0, .int .i64 0, .bool false, .int .i64 lf, .int .i64 st, .int .i64 en] 35)).alloc (.cells #[.int .i64 0, .int .i64 0, .int .i64 0, .int .i64 0, .bool false, .int .i64 0, .int .i64 0, .int .i64 0] 35)).cell? ⟨w.heap.size, 1, none⟩ = some (.int .i64 mp) := by rw [World.cell?_alloc_lt _ _ _ (by simp <;> omega), World.cell?_alloc_lt _ _ _ (by simp <;> omega), World.cell?_alloc_lt _ _ _ (by simp <;> omega), World.cell?_alloc_lt _ _ _ (by simp <;> omega), World.cell?_alloc_lt _ _ _ (by simp <;> omega), World.cell?_alloc_at _ _ _ _ (by simp)]; rfl
  have k0_2 : ((((((w.alloc (.cells #[.int .i64 mq, .int .i64 mp, .int .i64 0, .int .i64 0, .bool false, .int .i64 lf, .int .i64 st, .int .i64 en] 35)).alloc (.cells #[.int .i64 en] 3)).alloc (.cells #[.int .i64 0, .int .i64 0, .int .i64 0, .int .i64 0, .bool false, .int .i64 0, .int .i64 0, .int .i64 0] 35)).alloc (.cells #[.bool false] 4)).alloc (.cells #[.int .i64 mq, .int .i64 mp, .int .i64 0, .int .i64 0, .bool false, .int .i64 lf, .int .i64 st, .int .i64 en] 35)).alloc (.cells #[.int .i64 0, .int .i64 0, .int .i64 0, .int .i64 0, .bool false, .int .i64 0, .int .i64 0, .int .i64 0] 35)).cell? ⟨w.heap.size, 2, none⟩ = some (.int .i64 0) := by rw [World.cell?_alloc_lt _ _ _ (by simp <;> omega), World.cell?_alloc_lt _ _ _ (by simp <;> omega), World.cell?_alloc_lt _ _ _ (by simp <;> omega), World.cell?_alloc_lt _ _ _ (by simp <;> omega), World.cell?_alloc_lt _ _ _ (by simp <;> omega), World.cell?_alloc_at _ _ _ _ (by simp)]; rfl
  have k0_3 : ((((((w.alloc (.cells #[.int .i64 mq, .int .i64 mp, .int .i64 0, .int .i64 0, .bool false, .int .i64 lf, .int .i64 st, .int .i64 en] 35)).alloc (.cells #[.int .i64 en] 3)).alloc (.cells #[.int .i64 0, .int .i64 0, .int .i64 0, .int .i64 0, .bool false, .int .i64 0, .int .i64 0, .int .i64 0] 35)).alloc (.cells #[.bool false] 4)).alloc (.cells #[.int .i64 mq, .int .i64 mp, .int .i64 0, .int .i64 0, .bool false, .int .i64 lf, .int .i64 st, .int .i64 en] 35)).alloc (.cells #[.int .i64 0, .int .i64 0, .int .i64 0, .int .i64 0, .bool false, .int .i64 0, .int .i64 0, .int .i64 0] 35)).cell? ⟨w.heap.size, 3, none⟩ = some (.int .i64 0) := by rw [World.cell?_alloc_lt _ _ _ (by simp <;> omega), World.cell?_alloc_lt _ _ _ (by simp <;> omega), World.cell?_alloc_lt _ _ _ (by simp <;> omega), World.cell?_alloc_lt _ _ _ (by simp <;> omega), World.cell?_alloc_lt _ _ _ (by simp <;> omega), World.cell?_alloc_at _ _ _ _ (by simp)]; rfl
  have k0_4 : ((((((w.alloc (.cells #[.int .i64 mq, .int .i64 mp, .int .i64 0, .int .i64 0, .bool false, .int .i64 lf, .int .i64 st, .int .i64 en] 35)).alloc (.cells #[.int .i64 en] 3)).alloc (.cells #[.int .i64 0, .int .i64 0, .int .i64 0, .int .i64 0, .bool false, .int .i64 0, .int .i64 0, .int .i64 0] 35)).alloc (.cells #[.bool false] 4)).alloc (.cells #[.int .i64 mq, .int .i64 mp, .int .i64 0, .int .i64 0, .bool false, .int .i64 lf, .int .i64 st, .int .i64 en] 35)).alloc (.cells #[.int .i64 0, .int .i64 0, .int .i64 0, .int .i64 0, .bool false, .int .i64 0, .int .i64 0, .int .i64 0] 35)).cell? ⟨w.heap.size, 4, none⟩ = some (.bool false) := by rw [World.cell?_alloc_lt _ _ _ (by simp <;> omega), World.cell?_alloc_lt _ _ _ (by simp <;> omega), World.cell?_alloc_lt _ _ _ (by simp <;> omega), World.cell?_alloc_lt _ _ _ (by simp <;> omega), World.cell?_alloc_lt _ _ _ (by simp <;> omega), World.cell?_alloc_at _ _ _ _ (by simp)]; rfl
  have k0_5 : ((((((w.alloc (.cells #[.int .i64 mq, .int .i64 mp, .int .i64 0, .int .i64 0, .bool false, .int .i64 lf, .int .i64 st, .int .i64 en] 35)).alloc (.cells #[.int .i64 en] 3)).alloc (.cells #[.int .i64 0, .int .i64 0, .int .i64 0, .int .i64 0, .bool false, .int .i64 0, .int .i64 0, .int .i64 0] 35)).alloc (.cells #[.bool false] 4)).alloc (.cells #[.int .i64 mq, .int .i64 mp, .int .i64 0, .int .i64 0, .bool false, .int .i64 lf, .int .i64 st, .int .i64 en] 35)).alloc (.cells #[.int .i64 0, .int .i64 0, .int .i64 0, .int .i64 0, .bool false, .int .i64 0, .int .i64 0, .int .i64 0] 35)).cell? ⟨w.heap.size, 5, none⟩ = some (.int .i64 lf) := by rw [World.cell?_alloc_lt _ _ _ (by simp <;> omega), World.cell?_alloc_lt _ _ _ (by simp <;> omega), World.cell?_alloc_lt _ _ _ (by simp <;> omega), World.cell?_alloc_lt _ _ _ (by simp <;> omega), World.cell?_alloc_lt _ _ _ (by simp <;> omega), World.cell?_alloc_at _ _ _ _ (by simp)]; rfl
  have k0_6 : ((((((w.alloc (.cells #[.int .i64 mq, .int .i64 mp, .int .i64 0, .int .i64 0, .bool false, .int .i64 lf, .int .i64 st, .int .i64 en] 35)).alloc (.cells #[.int .i64 en] 3)).alloc (.cells #[.int .i64 0, .int .i64 0, .int .i64 0, .int .i64 0, .bool false, .int .i64 0, .int .i64 0, .int .i64 0] 35)).alloc (.cells #[.bool false] 4)).alloc (.cells #[.int .i64 mq, .int .i64 mp, .int .i64 0, .int .i64 0, .bool false, .int .i64 lf, .int .i64 st, .int .i64 en] 35)).alloc (.cells #[.int .i64 0, .int .i64 0, .int .i64 0, .int .i64 0, .bool false, .int .i64 0, .int .i64 0, .int .i64 0] 35)).cell? ⟨w.heap.size, 6, none⟩ = some (.int .i64 st) := by rw [World.cell?_alloc_lt _ _ _ (by simp <;> omega), World.cell?_alloc_lt _ _ _ (by simp <;> omega), World.cell?_alloc_lt _ _ _ (by simp <;> omega), World.cell?_alloc_lt _ _ _ (by simp <;> omega), World.cell?_alloc_lt _ _ _ (by simp <;> omega), World.cell?_alloc_at _ _ _ _ (by simp)]; rfl
  have k0_7 : ((((((w.alloc (.cells #[.int .i64 mq, .int .i64 mp, .int .i64 0, .int .i64 0, .bool false, .int .i64 lf, .int .i64 st, .int .i64 en] 35)).alloc (.cells #[.int .i64 en] 3)).alloc (.cells #[.int .i64 0, .int .i64 0, .int .i64 0, .int .i64 0, .bool false, .int .i64 0, .int .i64 0, .int .i64 0] 35)).alloc (.cells #[.bool false] 4)).alloc (.cells #[.int .i64 mq, .int .i64 mp, .int .i64 0, .int .i64 0, .bool false, .int .i64 lf, .int .i64 st, .int .i64 en] 35)).alloc (.cells #[.int .i64 0, .int .i64 0, .int .i64 0, .int .i64 0, .bool false, .int .i64 0, .int .i64 0, .int .i64 0] 35)).cell? ⟨w.heap.size, 7, none⟩ = some (.int .i64 en) := by rw [World.cell?_alloc_lt _ _ _ (by simp <;> omega), World.cell?_alloc_lt _ _ _ (by simp <;> omega), World.cell?_alloc_lt _ _ _ (by simp <;> omega), World.cell?_alloc_lt _ _ _ (by simp <;> omega), World.cell?_alloc_lt _ _ _ (by simp <;> omega), World.cell?_alloc_at _ _ _ _ (by simp)]; rfl
  have k1_0 : ((((((w.alloc (.cells #[.int .i64 mq, .int .i64 mp, .int .i64 0, .int .i64 0, .bool false, .int .i64 lf, .int .i64 st, .int .i64 en] 35)).alloc (.cells #[.int .i64 en] 3)).alloc (.cells #[.int .i64 0, .int .i64 0, .int .i64 0, .int .i64 0, .bool false, .int .i64 0, .int .i64 0, .int .i64 0] 35)).alloc (.cells #[.bool false] 4)).alloc (.cells #[.int .i64 mq, .int .i64 mp, .int .i64 0, .int .i64 0, .bool false, .int .i64 lf, .int .i64 st, .int .i64 en] 35)).alloc (.cells #[.int .i64 0, .int .i64 0, .int .i64 0, .int .i64 0, .bool false, .int .i64 0, .int .i64 0, .int .i64 0] 35)).cell? ⟨w.heap.size + 1, 0, none⟩ = some (.int .i64 en) := by rw [World.cell?_alloc_lt _ _ _ (by simp <;> omega), World.cell?_alloc_lt _ _ _ (by simp <;> omega), World.cell?_alloc_lt _ _ _ (by simp <;> omega), World.cell?_alloc_lt _ _ _ (by simp <;> omega), World.cell?_alloc_at _ _ _ _ (by simp)]; rfl
  have k2_0 : ((((((w.alloc (.cells #[.int .i64 mq, .int .i64 mp, .int .i64 0, .int .i64 0, .bool false, .int .i64 lf, .int .i64 st, .int .i64 en] 35)).alloc (.cells #[.int .i64 en] 3)).alloc (.cells #[.int .i64 0, .int .i64 0, .int .i64 0, .int .i64 0, .bool false, .int .i64 0, .int .i64 0, .int .i64 0] 35)).alloc (.cells #[.bool false] 4)).alloc (.cells #[.int .i64 mq, .int .i64 mp, .int .i64 0, .int .i64 0, .bool false, .int .i64 lf, .int .i64 st, .int .i64 en] 35)).alloc (.cells #[.int .i64 0, .int .i64 0, .int .i64 0, .int .i64 0, .bool false, .int .i64 0, .int .i64 0, .int .i64 0] 35)).cell? ⟨w.heap.size + 1 + 1, 0, none⟩ = some (.int .i64 0) := by rw [World.cell?_alloc_lt _ _ _ (by simp <;> omega), World.cell?_alloc_lt _ _ _ (by simp <;> omega), World.cell?_alloc_lt _ _ _ (by simp <;> omega), World.cell?_alloc_at _ _ _ _ (by simp)]; rfl
  have f2_0 : ((((((w.alloc (.cells #[.int .i64 mq, .int .i64 mp, .int .i64 0, .int .i64 0, .bool false, .int .i64 lf, .int .i64 st, .int .i64 en] 35)).alloc (.cells #[.int .i64 en] 3)).alloc (.cells #[.int .i64 0, .int .i64 0, .int .i64 0, .int .i64 0, .bool false, .int .i64 0, .int .i64 0, .int .i64 0] 35)).alloc (.cells #[.bool false] 4)).alloc (.cells #[.int .i64 mq, .int .i64 mp, .int .i64 0, .int .i64 0, .bool false, .int .i64 lf, .int .i64 st, .int .i64 en] 35)).alloc (.cells #[.int .i64 0, .int .i64 0, .int .i64 0, .int .i64 0, .bool false, .int .i64 0, .int .i64 0, .int .i64 0] 35)).frozen? ⟨w.heap.size + 1 + 1, 0, none⟩ = false := by simp only [frozen?_alloc_cells]; exact frozen_beyond _ _ _ (by omega)
  have k2_1 : ((((((w.alloc (.cells #[.int .i64 mq, .int .i64 mp, .int .i64 0, .int .i64 0, .bool false, .int .i64 lf, .int .i64 st, .int .i64 en] 35)).alloc (.cells #[.int .i64 en] 3)).alloc (.cells #[.int .i64 0, .int .i64 0, .int .i64 0, .int .i64 0, .bool false, .int .i64 0, .int .i64 0, .int .i64 0] 35)).alloc (.cells #[.bool false] 4)).alloc (.cells #[.int .i64 mq, .int .i64 mp, .int .i64 0, .int .i64 0, .bool false, .int .i64 lf, .int .i64 st, .int .i64 en] 35)).alloc (.cells #[.int .i64 0, .int .i64 0, .int .i64 0, .int .i64 0, .bool false, .int .i64 0, .int .i64 0, .int .i64 0] 35)).cell? ⟨w.heap.size + 1 + 1, 1, none⟩ = some (.int .i64 0) := by rw [World.cell?_alloc_lt _ _ _ (by simp <;> omega), World.cell?_alloc_lt _ _ _ (by simp <;> omega), World.cell?_alloc_lt _ _ _ (by simp <;> omega), World.cell?_alloc_at _ _ _ _ (by simp)]; rfl
  have f2_1 : ((((((w.alloc (.cells #[.int .i64 mq, .int .i64 mp, .int .i64 0, .int .i64 0, .bool false, .int .i64 lf, .int .i64 st, .int .i64 en] 35)).alloc (.cells #[.int .i64 en] 3)).alloc (.cells #[.int .i64 0, .int .i64 0, .int .i64 0, .int .i64 0, .bool false, .int .i64 0, .int .i64 0, .int .i64 0] 35)).alloc (.cells #[.bool false] 4)).alloc (.cells #[.int .i64 mq, .int .i64 mp, .int .i64 0, .int .i64 0, .bool false, .int .i64 lf, .int .i64 st, .int .i64 en] 35)).alloc (.cells #[.int .i64 0, .int .i64 0, .int .i64 0, .int .i64 0, .bool false, .int .i64 0, .int .i64 0, .int .i64 0] 35)).frozen? ⟨w.heap.size + 1 + 1, 1, none⟩ = false := by simp only [frozen?_alloc_cells]; exact frozen_beyond _ _ _ (by omega)
  have k2_2 : ((((((w.alloc (.cells #[.int .i64 mq, .int .i64 mp, .int .i64 0, .int .i64 0, .bool false, .int .i64 lf, .int .i64 st, .int .i64 en] 35)).alloc (.cells #[.int .i64 en] 3)).alloc (.cells #[.int .i64 0, .int .i64 0, .int .i64 0, .int .i64 0, .bool false, .int .i64 0, .int .i64 0, .int .i64 0] 35)).alloc (.cells #[.bool false] 4)).alloc (.cells #[.int .i64 mq, .int .i64 mp, .int .i64 0, .int .i64 0, .bool false, .int .i64 lf, .int .i64 st, .int .i64 en] 35)).alloc (.cells #[.int .i64 0, .int .i64 0, .int .i64 0, .int .i64 0, .bool false, .int .i64 0, .int .i64 0, .int .i64 0] 35)).cell? ⟨w.heap.size + 1 + 1, 2, none⟩ = some (.int .i64 0) := by rw [World.cell?_alloc_lt _ _ _ (by simp <;> omega), World.cell?_alloc_lt _ _ _ (by simp <;> omega), World.cell?_alloc_lt _ _ _ (by simp <;> omega), World.cell?_alloc_at _ _ _ _ (by simp)]; rfl
  have f2_2 : ((((((w.alloc (.cells #[.int .i64 mq, .int .i64 mp, .int .i64 0, .int .i64 0, .bool false, .int .i64 lf, .int .i64 st, .int .i64 en] 35)).alloc (.cells #[.int .i64 en] 3)).alloc (.cells #[.int .i64 0, .int .i64 0, .int .i64 0, .int .i64 0, .bool false, .int .i64 0, .int .i64 0, .int .i64 0] 35)).alloc (.cells #[.bool false] 4)).alloc (.cells #[.int .i64 mq, .int .i64 mp, .int .i64 0, .int .i64 0, .bool false, .int .i64 lf, .int .i64 st, .int .i64 en] 35)).alloc (.cells #[.int .i64 0, .int .i64 0, .int .i64 0, .int .i64 0, .bool false, .int .i64 0, .int .i64 0, .int .i64 0] 35)).frozen? ⟨w.heap.size + 1 + 1, 2, none⟩ = false := by simp only [frozen?_alloc_cells]; exact frozen_beyond _ _ _ (by omega)
  have k2_3 : ((((((w.alloc (.cells #[.int .i64 mq, .int .i64 mp, .int .i64 0, .int .i64 0, .bool false, .int .i64 lf, .int .i64 st, .int .i64 en] 35)).alloc (.cells #[.int .i64 en] 3)).alloc (.cells #[.int .i64 0, .int .i64 0, .int .i64 0, .int .i64 0, .bool false, .int .i64 0, .int .i64 0, .int .i64 0] 35)).alloc (.cells #[.bool false] 4)).alloc (.cells #[.int .i64 mq, .int .i64 mp, .int .i64 0, .int .i64 0, .bool false, .int .i64 lf, .int .i64 st, .int .i64 en] 35)).alloc (.cells #[.int .i64 0, .int .i64 0, .int .i64 0, .int .i64 0, .bool false, .int .i64 0, .int .i64 0, .int .i64 0] 35)).cell? ⟨w.heap.size + 1 + 1, 3, none⟩ = some (.int .i64 0) := by rw [World.cell?_alloc_lt _ _ _ (by simp <;> omega), World.cell?_alloc_lt _ _ _ (by simp <;> omega), World.cell?_alloc_lt _ _ _ (by simp <;> omega), World.cell?_alloc_at _ _ _ _ (by simp)]; rfl
  have f2_3 : ((((((w.alloc (.cells #[.int .i64 mq, .int .i64 mp, .int .i64 0, .int .i64 0, .bool false, .int .i64 lf, .int .i64 st, .int .i64 en] 35)).alloc (.cells #[.int .i64 en] 3)).alloc (.cells #[.int .i64 0, .int .i64 0, .int .i64 0, .int .i64 0, .bool false, .int .i64 0, .int .i64 0, .int .i64 0] 35)).alloc (.cells #[.bool false] 4)).alloc (.cells #[.int .i64 mq, .int .i64 mp, .int .i64 0, .int .i64 0, .bool false, .int .i64 lf, .int .i64 st, .int .i64 en] 35)).alloc (.cells #[.int .i64 0, .int .i64 0, .int .i64 0, .int .i64 0, .bool false, .int .i64 0, .int .i64 0, .int .i64 0] 35)).frozen? ⟨w.heap.size + 1 + 1, 3, none⟩ = false := by simp only [frozen?_alloc_cells]; exact frozen_beyond _ _ _ (by omega)
  have k2_4 : ((((((w.alloc (.cells #[.int .i64 mq, .int .i64 mp, .int .i64 0, .int .i64 0, .bool false, .int .i64 lf, .int .i64 st, .int .i64 en] 35)).alloc (.cells #[.int .i64 en] 3)).alloc (.cells #[.int .i64 0, .int .i64 0, .int .i64 0, .int .i64 0, .bool false, .int .i64 0, .int .i64 0, .int .i64 0] 35)).alloc (.cells #[.bool false] 4)).alloc (.cells #[.int .i64 mq, .int .i64 mp, .int .i64 0, .int .i64 0, .bool false, .int .i64 lf, .int .i64 st, .int .i64 en] 35)).alloc (.cells #[.int .i64 0, .int .i64 0, .int .i64 0, .int .i64 0, .bool false, .int .i64 0, .int .i64 0, .int .i64 0] 35)).cell? ⟨w.heap.size + 1 + 1, 4, none⟩ = some (.bool false) := by rw [World.cell?_alloc_lt _ _ _ (by simp <;> omega), World.cell?_alloc_lt _ _ _ (by simp <;> omega), World.cell?_alloc_lt _ _ _ (by simp <;> omega), World.cell?_alloc_at _ _ _ _ (by simp)]; rfl
  have f2_4 : ((((((w.alloc (.cells #[.int .i64 mq, .int .i64 mp, .int .i64 0, .int .i64 0, .bool false, .int .i64 lf, .int .i64 st, .int .i64 en] 35)).alloc (.cells #[.int .i64 en] 3)).alloc (.cells #[.int .i64 0, .int .i64 0, .int .i64 0, .int .i64 0, .bool false, .int .i64 0, .int .i64 0, .int .i64 0] 35)).alloc (.cells #[.bool false] 4)).alloc (.cells #[.int .i64 mq, .int .i64 mp, .int .i64 0, .int .i64 0, .bool false, .int .i64 lf, .int .i64 st, .int .i64 en] 35)).alloc (.cells #[.int .i64 0, .int .i64 0, .int .i64 0, .int .i64 0, .bool false, .int .i64 0, .int .i64 0, .int .i64 0] 35)).frozen? ⟨w.heap.size + 1 + 1, 4, none⟩ = false := by simp only [frozen?_alloc_cells]; exact frozen_beyond _ _ _ (by omega)
  have k2_5 : ((((((w.alloc (.cells #[.int .i64 mq, .int .i64 mp, .int .i64 0, .int .i64 0, .bool false, .int .i64 lf, .int .i64 st, .int .i64 en] 35)).alloc (.cells #[.int .i64 en] 3)).alloc (.cells #[.int .i64 0, .int .i64 0, .int .i64 0, .int .i64 0, .bool false, .int .i64 0, .int .i64 0, .int .i64 0] 35)).alloc (.cells #[.bool false] 4)).alloc (.cells #[.int .i64 mq, .int .i64 mp, .int .i64 0, .int .i64 0, .bool false, .int .i64 lf, .int .i64 st, .int .i64 en] 35)).alloc (.cells #[.int .i64 0, .int .i64 0, .int .i64 0, .int .i64 0, .bool false, .int .i64 0, .int .i64 0, .int .i64 0] 35)).cell? ⟨w.heap.size + 1 + 1, 5, none⟩ = some (.int .i64 0) := by rw [World.cell?_alloc_lt _ _ _ (by simp <;> omega), World.cell?_alloc_lt _ _ _ (by simp <;> omega), World.cell?_alloc_lt _ _ _ (by simp <;> omega), World.cell?_alloc_at _ _ _ _ (by simp)]; rfl
  have f2_5 : ((((((w.alloc (.cells #[.int .i64 mq, .int .i64 mp, .int .i64 0, .int .i64 0, .bool false, .int .i64 lf, .int .i64 st, .int .i64 en] 35)).alloc (.cells #[.int .i64 en] 3)).alloc (.cells #[.int .i64 0, .int .i64 0, .int .i64 0, .int .i64 0, .bool false, .int .i64 0, .int .i64 0, .int .i64 0] 35)).alloc (.cells #[.bool false] 4)).alloc (.cells #[.int .i64 mq, .int .i64 mp, .int .i64 0, .int .i64 0, .bool false, .int .i64 lf, .int .i64 st, .int .i64 en] 35)).alloc (.cells #[.int .i64 0, .int .i64 0, .int .i64 0, .int .i64 0, .bool false, .int .i64 0, .int .i64 0, .int .i64 0] 35)).frozen? ⟨w.heap.size + 1 + 1, 5, none⟩ = false := by simp only [frozen?_alloc_cells]; exact frozen_beyond _ _ _ (by omega)
  have k2_6 : ((((((w.alloc (.cells #[.int .i64 mq, .int .i64 mp, .int .i64 0, .int .i64 0, .bool false, .int .i64 lf, .int .i64 st, .int .i64 en] 35)).alloc (.cells #[.int .i64 en] 3)).alloc (.cells #[.int .i64 0, .int .i64 0, .int .i64 0, .int .i64 0, .bool false, .int .i64 0, .int .i64 0, .int .i64 0] 35)).alloc (.cells #[.bool false] 4)).alloc (.cells #[.int .i64 mq, .int .i64 mp, .int .i64 0, .int .i64 0, .bool false, .int .i64 lf, .int .i64 st, .int .i64 en] 35)).alloc (.cells #[.int .i64 0, .int .i64 0, .int .i64 0, .int .i64 0, .bool false, .int .i64 0, .int .i64 0, .int .i64 0] 35)).cell? ⟨w.heap.size + 1 + 1, 6, none⟩ = some (.int .i64 0) := by rw [World.cell?_alloc_lt _ _ _ (by simp <;> omega), World.cell?_alloc_lt _ _ _ (by simp <;> omega), World.cell?_alloc_lt _ _ _ (by simp <;> omega), World.cell?_alloc_at _ _ _ _ (by simp)]; rfl
  have f2_6 : ((((((w.alloc (.cells #[.int .i64 mq, .int .i64 mp, .int .i64 0, .int .i64 0, .bool false, .int .i64 lf, .int .i64 st, .int .i64 en] 35)).alloc (.cells #[.int .i64 en] 3)).alloc (.cells #[.int .i64 0, .int .i64 0, .int .i64 0, .int .i64 0, .bool false, .int .i64 0, .int .i64 0, .int .i64 0] 35)).alloc (.cells #[.bool false] 4)).alloc (.cells #[.int .i64 mq, .int .i64 mp, .int .i64 0, .int .i64 0, .bool false, .int .i64 lf, .int .i64 st, .int .i64 en] 35)).alloc (.cells #[.int .i64 0, .int .i64 0, .int .i64 0, .int .i64 0, .bool false, .int .i64 0, .int .i64 0, .int .i64 0] 35)).frozen? ⟨w.heap.size + 1 + 1, 6, none⟩ = false := by simp only [frozen?_alloc_cells]; exact frozen_beyond _ _ _ (by omega)
  have k2_7 : ((((((w.alloc (.cells #[.int .i64 mq, .int .i64 mp, .int .i64 0, .int .i64 0, .bool false, .int .i64 lf, .int .i64 st, .int .i64 en] 35)).alloc (.cells #[.int .i64 en] 3)).alloc (.cells #[.int .i64 0, .int .i64 0, .int .i64 0, .int .i64 0, .bool false, .int .i64 0, .int .i64 0, .int .i64 0] 35)).alloc (.cells #[.bool false] 4)).alloc (.cells #[.int .i64 mq, .int .i64 mp, .int .i64 0, .int .i64 0, .bool false, .int .i64 lf, .int .i64 st, .int .i64 en] 35)).alloc (.cells #[.int .i64 0, .int .i64 0, .int .i64 0, .int .i64 0, .bool false, .int .i64 0, .int .i64 0, .int .i64 0] 35)).cell? ⟨w.heap.size + 1 + 1, 7, none⟩ = some (.int .i64 0) := by rw [World.cell?_alloc_lt _ _ _ (by simp <;> omega), World.cell?_alloc_lt _ _ _ (by simp <;> omega), World.cell?_alloc_lt _ _ _ (by simp <;> omega), World.cell?_alloc_at _ _ _ _ (by simp)]; rfl
  have f2_7 : ((((((w.alloc (.cells #[.int .i64 mq, .int .i64 mp, .int .i64 0, .int .i64 0, .bool false, .int .i64 lf, .int .i64 st, .int .i64 en] 35)).alloc (.cells #[.int .i64 en] 3)).alloc (.cells #[.int .i64 0, .int .i64 0, .int .i64 0, .int .i64 0, .bool false, .int .i64 0, .int .i64 0, .int .i64 0] 35)).alloc (.cells #[.bool false] 4)).alloc (.cells #[.int .i64 mq, .int .i64 mp, .int .i64 0, .int .i64 0, .bool false, .int .i64 lf, .int .i64 st, .int .i64 en] 35)).alloc (.cells #[.int .i64 0, .int .i64 0, .int .i64 0, .int .i64 0, .bool false, .int .i64 0, .int .i64 0, .int .i64 0] 35)).frozen? ⟨w.heap.size + 1 + 1, 7, none⟩ = false := by simp only [frozen?_alloc_cells]; exact frozen_beyond _ _ _ (by omega)
  have k3_0 : ((((((w.alloc (.cells #[.int .i64 mq, .int .i64 mp, .int .i64 0, .int .i64 0, .bool false, .int .i64 lf, .int .i64 st, .int .i64 en] 35)).alloc (.cells #[.int .i64 en] 3)).alloc (.cells #[.int .i64 0, .int .i64 0, .int .i64 0, .int .i64 0, .bool false, .int .i64 0, .int .i64 0, .int .i64 0] 35)).alloc (.cells #[.bool false] 4)).alloc (.cells #[.int .i64 mq, .int .i64 mp, .int .i64 0, .int .i64 0, .bool false, .int .i64 lf, .int .i64 st, .int .i64 en] 35)).alloc (.cells #[.int .i64 0, .int .i64 0, .int .i64 0, .int .i64 0, .bool false, .int .i64 0, .int .i64 0, .int .i64 0] 35)).cell? ⟨w.heap.size + 1 + 1 + 1, 0, none⟩ = some (.bool false) := by rw [World.cell?_alloc_lt _ _ _ (by simp <;> omega), World.cell?_alloc_lt _ _ _ (by simp <;> omega), World.cell?_alloc_at _ _ _ _ (by simp)]; rfl
  have f3_0 : ((((((w.alloc (.cells #[.int .i64 mq, .int .i64 mp, .int .i64 0, .int .i64 0, .bool false, .int .i64 lf, .int .i64 st, .int .i64 en] 35)).alloc (.cells #[.int .i64 en] 3)).alloc (.cells #[.int .i64 0, .int .i64 0, .int .i64 0, .int .i64 0, .bool false, .int .i64 0, .int .i64 0, .int .i64 0] 35)).alloc (.cells #[.bool false] 4)).alloc (.cells #[.int .i64 mq, .int .i64 mp, .int .i64 0, .int .i64 0, .bool false, .int .i64 lf, .int .i64 st, .int .i64 en] 35)).alloc (.cells #[.int .i64 0, .int .i64 0, .int .i64 0, .int .i64 0, .bool false, .int .i64 0, .int .i64 0, .int .i64 0] 35)).frozen? ⟨w.heap.size + 1 + 1 + 1, 0, none⟩ = false := by simp only [frozen?_alloc_cells]; exact frozen_beyond _ _ _ (by omega)
  have k4_0 : ((((((w.alloc (.cells #[.int .i64 mq, .int .i64 mp, .int .i64 0, .int .i64 0, .bool false, .int .i64 lf, .int .i64 st, .int .i64 en] 35)).alloc (.cells #[.int .i64 en] 3)).alloc (.cells #[.int .i64 0, .int .i64 0, .int .i64 0, .int .i64 0, .bool false, .int .i64 0, .int .i64 0, .int .i64 0] 35)).alloc (.cells #[.bool false] 4)).alloc (.cells #[.int .i64 mq, .int .i64 mp, .int .i64 0, .int .i64 0, .bool false, .int .i64 lf, .int .i64 st, .int .i64 en] 35)).alloc (.cells #[.int .i64 0, .int .i64 0, .int .i64 0, .int .i64 0, .bool false, .int .i64 0, .int .i64 0, .int .i64 0] 35)).cell? ⟨w.heap.size + 1 + 1 + 1 + 1, 0, none⟩ = some (.int .i64 mq) := by rw [World.cell?_alloc_lt _ _ _ (by simp <;> omega), World.cell?_alloc_at _ _ _ _ (by simp)]; rfl
  have f4_0 : ((((((w.alloc (.cells #[.int .i64 mq, .int .i64 mp, .int .i64 0, .int .i64 0, .bool false, .int .i64 lf, .int .i64 st, .int .i64 en] 35)).alloc (.cells #[.int .i64 en] 3)).alloc (.cells #[.int .i64 0, .int .i64 0, .int .i64 0, .int .i64 0, .bool false, .int .i64 0, .int .i64 0, .int .i64 0] 35)).alloc (.cells #[.bool false] 4)).alloc (.cells #[.int .i64 mq, .int .i64 mp, .int .i64 0, .int .i64 0, .bool false, .int .i64 lf, .int .i64 st, .int .i64 en] 35)).alloc (.cells #[.int .i64 0, .int .i64 0, .int .i64 0, .int .i64 0, .bool false, .int .i64 0, .int .i64 0, .int .i64 0] 35)).frozen? ⟨w.heap.size + 1 + 1 + 1 + 1, 0, none⟩ = false := by simp only [frozen?_alloc_cells]; exact frozen_beyond _ _ _ (by omega)
  have k4_1 : ((((((w.alloc (.cells #[.int .i64 mq, .int .i64 mp, .int .i64 0, .int .i64 0, .bool false, .int .i64 lf, .int .i64 st, .int .i64 en] 35)).alloc (.cells #[.int .i64 en] 3)).alloc (.cells #[.int .i64 0, .int .i64 0, .int .i64 0, .int .i64 0, .bool false, .int .i64 0, .int .i64 0, .int .i64 0] 35)).alloc (.cells #[.bool false] 4)).alloc (.cells #[.int .i64 mq, .int .i64 mp, .int .i64 0, .int .i64 0, .bool false, .int .i64 lf, .int .i64 st, .int .i64 en] 35)).alloc (.cells #[.int .i64 0, .int .i64 0, .int .i64 0, .int .i64 0, .bool false, .int .i64 0, .int .i64 0, .int .i64 0] 35)).cell? ⟨w.heap.size + 1 + 1 + 1 + 1, 1, none⟩ = some (.int .i64 mp) := by rw [World.cell?_alloc_lt _ _ _ (by simp <;> omega), World.cell?_alloc_at _ _ _ _ (by simp)]; rfl
  have f4_1 : ((((((w.alloc (.cells #[.int .i64 mq, .int .i64 mp, .int .i64 0, .int .i64 0, .bool false, .int .i64 lf, .int .i64 st, .int .i64 en] 35)).alloc (.cells #[.int .i64 en] 3)).alloc (.cells #[.int .i64 0, .int .i64 0, .int .i64 0, .int .i64 0, .bool false, .int .i64 0, .int .i64 0, .int .i64 0] 35)).alloc (.cells #[.bool false] 4)).alloc (.cells #[.int .i64 mq, .int .i64 mp, .int .i64 0, .int .i64 0, .bool false, .int .i64 lf, .int .i64 st, .int .i64 en] 35)).alloc (.cells #[.int .i64 0, .int .i64 0, .int .i64 0, .int .i64 0, .bool false, .int .i64 0, .int .i64 0, .int .i64 0] 35)).frozen? ⟨w.heap.size + 1 + 1 + 1 + 1, 1, none⟩ = false := by simp only [frozen?_alloc_cells]; exact frozen_beyond _ _ _ (by omega)
  have k4_2 : ((((((w.alloc (.cells #[.int .i64 mq, .int .i64 mp, .int .i64 0, .int .i64 0, .bool false, .int .i64 lf, .int .i64 st, .int .i64 en] 35)).alloc (.cells #[.int .i64 en] 3)).alloc (.cells #[.int .i64 0, .int .i64 0, .int .i64 0, .int .i64 0, .bool false, .int .i64 0, .int .i64 0, .int .i64 0] 35)).alloc (.cells #[.bool false] 4)).alloc (.cells #[.int .i64 mq, .int .i64 mp, .int .i64 0, .int .i64 0, .bool false, .int .i64 lf, .int .i64 st, .int .i64 en] 35)).alloc (.cells #[.int .i64 0, .int .i64 0, .int .i64 0, .int .i64 0, .bool false, .int .i64 0, .int .i64 0, .int .i64 0] 35)).cell? ⟨w.heap.size + 1 + 1 + 1 + 1, 2, none⟩ = some (.int .i64 0) := by rw [World.cell?_alloc_lt _ _ _ (by simp <;> omega), World.cell?_alloc_at _ _ _ _ (by simp)]; rfl
  have f4_2 : ((((((w.alloc (.cells #[.int .i64 mq, .int .i64 mp, .int .i64 0, .int .i64 0, .bool false, .int .i64 lf, .int .i64 st, .int .i64 en] 35)).alloc (.cells #[.int .i64 en] 3)).alloc (.cells #[.int .i64 0, .int .i64 0, .int .i64 0, .int .i64 0, .bool false, .int .i64 0, .int .i64 0, .int .i64 0] 35)).alloc (.cells #[.bool false] 4)).alloc (.cells #[.int .i64 mq, .int .i64 mp, .int .i64 0, .int .i64 0, .bool false, .int .i64 lf, .int .i64 st, .int .i64 en] 35)).alloc (.cells #[.int .i64 0, .int .i64 0, .int .i64 0, .int .i64 0, .bool false, .int .i64 0, .int .i64 0, .int .i64 0] 35)).frozen? ⟨w.heap.size + 1 + 1 + 1 + 1, 2, none⟩ = false := by simp only [frozen?_alloc_cells]; exact frozen_beyond _ _ _ (by omega)
  have k4_3 : ((((((w.alloc (.cells #[.int .i64 mq, .int .i64 mp, .int .i64 0, .int .i64 0, .bool false, .int .i64 lf, .int .i64 st, .int .i64 en] 35)).alloc (.cells #[.int .i64 en] 3)).alloc (.cells #[.int .i64 0, .int .i64 0, .int .i64 0, .int .i64 0, .bool false, .int .i64 0, .int .i64 0, .int .i64 0] 35)).alloc (.cells #[.bool false] 4)).alloc (.cells #[.int .i64 mq, .int .i64 mp, .int .i64 0, .int .i64 0, .bool false, .int .i64 lf, .int .i64 st, .int .i64 en] 35)).alloc (.cells #[.int .i64 0, .int .i64 0, .int .i64 0, .int .i64 0, .bool false, .int .i64 0, .int .i64 0, .int .i64 0] 35)).cell? ⟨w.heap.size + 1 + 1 + 1 + 1, 3, none⟩ = some (.int .i64 0) := by rw [World.cell?_alloc_lt _ _ _ (by simp <;> omega), World.cell?_alloc_at _ _ _ _ (by simp)]; rfl
  have f4_3 : ((((((w.alloc (.cells #[.int .i64 mq, .int .i64 mp, .int .i64 0, .int .i64 0, .bool false, .int .i64 lf, .int .i64 st, .int .i64 en] 35)).alloc (.cells #[.int .i64 en] 3)).alloc (.cells #[.int .i64 0, .int .i64 0, .int .i64 0, .int .i64 0, .bool false, .int .i64 0, .int .i64 0, .int .i64 0] 35)).alloc (.cells #[.bool false] 4)).alloc (.cells #[.int .i64 mq, .int .i64 mp, .int .i64 0, .int .i64 0, .bool false, .int .i64 lf, .int .i64 st, .int .i64 en] 35)).alloc (.cells #[.int .i64 0, .int .i64 0, .int .i64 0, .int .i64 0, .bool false, .int .i64 0, .int .i64 0, .int .i64 0] 35)).frozen? ⟨w.heap.size + 1 + 1 + 1 + 1, 3, none⟩ = false := by simp only [frozen?_alloc_cells]; exact frozen_beyond _ _ _ (by omega)
  have k4_4 : ((((((w.alloc (.cells #[.int .i64 mq, .int .i64 mp, .int .i64 0, .int .i64 0, .bool false, .int .i64 lf, .int .i64 st, .int .i64 en] 35)).alloc (.cells #[.int .i64 en] 3)).alloc (.cells #[.int .i64 0, .int .i64 0, .int .i64 0, .int .i64 0, .bool false, .int .i64 0, .int .i64 0, .int .i64 0] 35)).alloc (.cells #[.bool false] 4)).alloc (.cells #[.int .i64 mq, .int .i64 mp, .int .i64 0, .int .i64 0, .bool false, .int .i64 lf, .int .i64 st, .int .i64 en] 35)).alloc (.cells #[.int .i64 0, .int .i64 0, .int .i64 0, .int .i64 0, .bool false, .int .i64 0, .int .i64 0, .int .i64 0] 35)).cell? ⟨w.heap.size + 1 + 1 + 1 + 1, 4, none⟩ = some (.bool false) := by rw [World.cell?_alloc_lt _ _ _ (by simp <;> omega), World.cell?_alloc_at _ _ _ _ (by simp)]; rfl
  have f4_4 : ((((((w.alloc (.cells #[.int .i64 mq, .int .i64 mp, .int .i64 0, .int .i64 0, .bool false, .int .i64 lf, .int .i64 st, .int .i64 en] 35)).alloc (.cells #[.int .i64 en] 3)).alloc (.cells #[.int .i64 0, .int .i64 0, .int .i64 0, .int .i64 0, .bool false, .int .i64 0, .int .i64 0, .int .i64 0] 35)).alloc (.cells #[.bool false] 4)).alloc (.cells #[.int .i64 mq, .int .i64 mp, .int .i64 0, .int .i64 0, .bool false, .int .i64 lf, .int .i64 st, .int .i64 en] 35)).alloc (.cells #[.int .i64 0, .int .i64 0, .int .i64 0, .int .i64 0, .bool false, .int .i64 0, .int .i64 0, .int .i64 0] 35)).frozen? ⟨w.heap.size + 1 + 1 + 1 + 1, 4, none⟩ = false := by simp only [frozen?_alloc_cells]; exact frozen_beyond _ _ _ (by omega)
  have k4_5 : ((((((w.alloc (.cells #[.int .i64 mq, .int .i64 mp, .int .i64 0, .int .i64 0, .bool false, .int .i64 lf, .int .i64 st, .int .i64 en] 35)).alloc (.cells #[.int .i64 en] 3)).alloc (.cells #[.int .i64 0, .int .i64 0, .int .i64 0, .int .i64 0, .bool false, .int .i64 0, .int .i64 0, .int .i64 0] 35)).alloc (.cells #[.bool false] 4)).alloc (.cells #[.int .i64 mq, .int .i64 mp, .int .i64 0, .int .i64 0, .bool false, .int .i64 lf, .int .i64 st, .int .i64 en] 35)).alloc (.cells #[.int .i64 0, .int .i64 0, .int .i64 0, .int .i64 0, .bool false, .int .i64 0, .int .i64 0, .int .i64 0] 35)).cell? ⟨w.heap.size + 1 + 1 + 1 + 1, 5, none⟩ = some (.int .i64 lf) := by rw [World.cell?_alloc_lt _ _ _ (by simp <;> omega), World.cell?_alloc_at _ _ _ _ (by simp)]; rfl
  have f4_5 : ((((((w.alloc (.cells #[.int .i64 mq, .int .i64 mp, .int .i64 0, .int .i64 0, .bool false, .int .i64 lf, .int .i64 st, .int .i64 en] 35)).alloc (.cells #[.int .i64 en] 3)).alloc (.cells #[.int .i64 0, .int .i64 0, .int .i64 0, .int .i64 0, .bool false, .int .i64 0, .int .i64 0, .int .i64 0] 35)).alloc (.cells #[.bool false] 4)).alloc (.cells #[.int .i64 mq, .int .i64 mp, .int .i64 0, .int .i64 0, .bool false, .int .i64 lf, .int .i64 st, .int .i64 en] 35)).alloc (.cells #[.int .i64 0, .int .i64 0, .int .i64 0, .int .i64 0, .bool false, .int .i64 0, .int .i64 0, .int .i64 0] 35)).frozen? ⟨w.heap.size + 1 + 1 + 1 + 1, 5, none⟩ = false := by simp only [frozen?_alloc_cells]; exact frozen_beyond _ _ _ (by omega)
  have k4_6 : ((((((w.alloc (.cells #[.int .i64 mq, .int .i64 mp, .int .i64 0, .int .i64 0, .bool false, .int .i64 lf, .int .i64 st, .int .i64 en] 35)).alloc (.cells #[.int .i64 en] 3)).alloc (.cells #[.int .i64 0, .int .i64 0, .int .i64 0, .int .i64 0, .bool false, .int .i64 0, .int .i64 0, .int .i64 0] 35)).alloc (.cells #[.bool false] 4)).alloc (.cells #[.int .i64 mq, .int .i64 mp, .int .i64 0, .int .i64 0, .bool false, .int .i64 lf, .int .i64 st, .int .i64 en] 35)).alloc (.cells #[.int .i64 0, .int .i64 0, .int .i64 0, .int .i64 0, .bool false, .int .i64 0, .int .i64 0, .int .i64 0] 35)).cell? ⟨w.heap.size + 1 + 1 + 1 + 1, 6, none⟩ = some (.int .i64 st) := by rw [World.cell?_alloc_lt _ _ _ (by simp <;> omega), World.cell?_alloc_at _ _ _ _ (by simp)]; rfl
  have f4_6 : ((((((w.alloc (.cells #[.int .i64 mq, .int .i64 mp, .int .i64 0, .int .i64 0, .bool false, .int .i64 lf, .int .i64 st, .int .i64 en] 35)).alloc (.cells #[.int .i64 en] 3)).alloc (.cells #[.int .i64 0, .int .i64 0, .int .i64 0, .int .i64 0, .bool false, .int .i64 0, .int .i64 0, .int .i64 0] 35)).alloc (.cells #[.bool false] 4)).alloc (.cells #[.int .i64 mq, .int .i64 mp, .int .i64 0, .int .i64 0, .bool false, .int .i64 lf, .int .i64 st, .int .i64 en] 35)).alloc (.cells #[.int .i64 0, .int .i64 0, .int .i64 0, .int .i64 0, .bool false, .int .i64 0, .int .i64 0, .int .i64 0] 35)).frozen? ⟨w.heap.size + 1 + 1 + 1 + 1, 6, none⟩ = false := by simp only [frozen?_alloc_cells]; exact frozen_beyond _ _ _ (by omega)
  have k4_7 : ((((((w.alloc (.cells #[.int .i64 mq, .int .i64 mp, .int .i64 0, .int .i64 0, .bool false, .int .i64 lf, .int .i64 st, .int .i64 en] 35)).alloc (.cells #[.int .i64 en] 3)).alloc (.cells #[.int .i64 0, .int .i64 0, .int .i64 0, .int .i64 0, .bool false, .int .i64 0, .int .i64 0, .int .i64 0] 35)).alloc (.cells #[.bool false] 4)).alloc (.cells #[.int .i64 mq, .int .i64 mp, .int .i64 0, .int .i64 0, .bool false, .int .i64 lf, .int .i64 st, .int .i64 en] 35)).alloc (.cells #[.int .i64 0, .int .i64 0, .int .i64 0, .int .i64 0, .bool false, .int .i64 0, .int .i64 0, .int .i64 0] 35)).cell? ⟨w.heap.size + 1 + 1 + 1 + 1, 7, none⟩ = some (.int .i64 en) := by rw [World.cell?_alloc_lt _ _ _ (by simp <;> omega), World.cell?_alloc_at _ _ _ _ (by simp)]; rfl
  have f4_7 : ((((((w.alloc (.cells #[.int .i64 mq, .int .i64 mp, .int .i64 0, .int .i64 0, .bool false, .int .i64 lf, .int .i64 st, .int .i64 en] 35)).alloc (.cells #[.int .i64 en] 3)).alloc (.cells #[.int .i64 0, .int .i64 0, .int .i64 0, .int .i64 0, .bool false, .int .i64 0, .int .i64 0, .int .i64 0] 35)).alloc (.cells #[.bool false] 4)).alloc (.cells #[.int .i64 mq, .int .i64 mp, .int .i64 0, .int .i64 0, .bool false, .int .i64 lf, .int .i64 st, .int .i64 en] 35)).alloc (.cells #[.int .i64 0, .int .i64 0, .int .i64 0, .int .i64 0, .bool false, .int .i64 0, .int .i64 0, .int .i64 0] 35)).frozen? ⟨w.heap.size + 1 + 1 + 1 + 1, 7, none⟩ = false := by simp only [frozen?_alloc_cells]; exact frozen_beyond _ _ _ (by omega)
  have k5_0 : ((((((w.alloc (.cells #[.int .i64 mq, .int .i64 mp, .int .i64 0, .int .i64 0, .bool false, .int .i64 lf, .int .i64 st, .int .i64 en] 35)).alloc (.cells #[.int .i64 en] 3)).alloc (.cells #[.int .i64 0, .int .i64 0, .int .i64 0, .int .i64 0, .bool false, .int .i64 0, .int .i64 0, .int .i64 0] 35)).alloc (.cells #[.bool false] 4)).alloc (.cells #[.int .i64 mq, .int .i64 mp, .int .i64 0, .int .i64 0, .bool false, .int .i64 lf, .int .i64 st, .int .i64 en] 35)).alloc (.cells #[.int .i64 0, .int .i64 0, .int .i64 0, .int .i64 0, .bool false, .int .i64 0, .int .i64 0, .int .i64 0] 35)).cell? ⟨w.heap.size + 1 + 1 + 1 + 1 + 1, 0, none⟩ = some (.int .i64 0) := by rw [World.cell?_alloc_at _ _ _ _ (by simp)]; rfl
  have f5_0 : ((((((w.alloc (.cells #[.int .i64 mq, .int .i64 mp, .int .i64 0, .int .i64 0, .bool false, .int .i64 lf, .int .i64 st, .int .i64 en] 35)).alloc (.cells #[.int .i64 en] 3)).alloc (.cells #[.int .i64 0, .int .i64 0, .int .i64 0, .int .i64 0, .bool false, .int .i64 0, .int .i64 0, .int .i64 0] 35)).alloc (.cells #[.bool false] 4)).alloc (.cells #[.int .i64 mq, .int .i64 mp, .int .i64 0, .int .i64 0, .bool false, .int .i64 lf, .int .i64 st, .int .i64 en] 35)).alloc (.cells #[.int .i64 0, .int .i64 0, .int .i64 0, .int .i64 0, .bool false, .int .i64 0, .int .i64 0, .int .i64 0] 35)).frozen? ⟨w.heap.size + 1 + 1 + 1 + 1 + 1, 0, none⟩ = false := by simp only [frozen?_alloc_cells]; exact frozen_beyond _ _ _ (by omega)
  have k5_1 : ((((((w.alloc (.cells #[.int .i64 mq, .int .i64 mp, .int .i64 0, .int .i64 0, .bool false, .int .i64 lf, .int .i64 st, .int .i64 en] 35)).alloc (.cells #[.int .i64 en] 3)).alloc (.cells #[.int .i64 0, .int .i64 0, .int .i64 0, .int .i64 0, .bool false, .int .i64 0, .int .i64 0, .int .i64 0] 35)).alloc (.cells #[.bool false] 4)).alloc (.cells #[.int .i64 mq, .int .i64 mp, .int .i64 0, .int .i64 0, .bool false, .int .i64 lf, .int .i64 st, .int .i64 en] 35)).alloc (.cells #[.int .i64 0, .int .i64 0, .int .i64 0, .int .i64 0, .bool false, .int .i64 0, .int .i64 0, .int .i64 0] 35)).cell? ⟨w.heap.size + 1 + 1 + 1 + 1 + 1, 1, none⟩ = some (.int .i64 0) := by rw [World.cell?_alloc_at _ _ _ _ (by simp)]; rfl
  have f5_1 : ((((((w.alloc (.cells #[.int .i64 mq, .int .i64 mp, .int .i64 0, .int .i64 0, .bool false, .int .i64 lf, .int .i64 st, .int .i64 en] 35)).alloc (.cells #[.int .i64 en] 3)).alloc (.cells #[.int .i64 0, .int .i64 0, .int .i64 0, .int .i64 0, .bool false, .int .i64 0, .int .i64 0, .int .i64 0] 35)).alloc (.cells #[.bool false] 4)).alloc (.cells #[.int .i64 mq, .int .i64 mp, .int .i64 0, .int .i64 0, .bool false, .int .i64 lf, .int .i64 st, .int .i64 en] 35)).alloc (.cells #[.int .i64 0, .int .i64 0, .int .i64 0, .int .i64 0, .bool false, .int .i64 0, .int .i64 0, .int .i64 0] 35)).frozen? ⟨w.heap.size + 1 + 1 + 1 + 1 + 1, 1, none⟩ = false := by simp only [frozen?_alloc_cells]; exact frozen_beyond _ _ _ (by omega)
  have k5_2 : ((((((w.alloc (.cells #[.int .i64 mq, .int .i64 mp, .int .i64 0, .int .i64 0, .bool false, .int .i64 lf, .int .i64 st, .int .i64 en] 35)).alloc (.cells #[.int .i64 en] 3)).alloc (.cells #[.int .i64 0, .int .i64 0, .int .i64 0, .int .i64 0, .bool false, .int .i64 0, .int .i64 0, .int .i64 0] 35)).alloc (.cells #[.bool false] 4)).alloc (.cells #[.int .i64 mq, .int .i64 mp, .int .i64 0, .int .i64 0, .bool false, .int .i64 lf, .int .i64 st, .int .i64 en] 35)).alloc (.cells #[.int .i64 0, .int .i64 0, .int .i64 0, .int .i64 0, .bool false, .int .i64 0, .int .i64 0, .int .i64 0] 35)).cell? ⟨w.heap.size + 1 + 1 + 1 + 1 + 1, 2, none⟩ = some (.int .i64 0) := by rw [World.cell?_alloc_at _ _ _ _ (by simp)]; rfl
  have f5_2 : ((((((w.alloc (.cells #[.int .i64 mq, .int .i64 mp, .int .i64 0, .int .i64 0, .bool false, .int .i64 lf, .int .i64 st, .int .i64 en] 35)).alloc (.cells #[.int .i64 en] 3)).alloc (.cells #[.int .i64 0, .int .i64 0, .int .i64 0, .int .i64 0, .bool false, .int .i64 0, .int .i64 0, .int .i64 0] 35)).alloc (.cells #[.bool false] 4)).alloc (.cells #[.int .i64 mq, .int .i64 mp, .int .i64 0, .int .i64 0, .bool false, .int .i64 lf, .int .i64 st, .int .i64 en] 35)).alloc (.cells #[.int .i64 0, .int .i64 0, .int .i64 0, .int .i64 0, .bool false, .int .i64 0, .int .i64 0, .int .i64 0] 35)).frozen? ⟨w.heap.size + 1 + 1 + 1 + 1 + 1, 2, none⟩ = false := by simp only [frozen?_alloc_cells]; exact frozen_beyond _ _ _ (by omega)
  have k5_3 : ((((((w.alloc (.cells #[.int .i64 mq, .int .i64 mp, .int .i64 0, .int .i64 0, .bool false, .int .i64 lf, .int .i64 st, .int .i64 en] 35)).alloc (.cells #[.int .i64 en] 3)).alloc (.cells #[.int .i64 0, .int .i64 0, .int .i64 0, .int .i64 0, .bool false, .int .i64 0, .int .i64 0, .int .i64 0] 35)).alloc (.cells #[.bool false] 4)).alloc (.cells #[.int .i64 mq, .int .i64 mp, .int .i64 0, .int .i64 0, .bool false, .int .i64 lf, .int .i64 st, .int .i64 en] 35)).alloc (.cells #[.int .i64 0, .int .i64 0, .int .i64 0, .int .i64 0, .bool false, .int .i64 0, .int .i64 0, .int .i64 0] 35)).cell? ⟨w.heap.size + 1 + 1 + 1 + 1 + 1, 3, none⟩ = some (.int .i64 0) := by rw [World.cell?_alloc_at _ _ _ _ (by simp)]; rfl
  have f5_3 : ((((((w.alloc (.cells #[.int .i64 mq, .int .i64 mp, .int .i64 0, .int .i64 0, .bool false, .int .i64 lf, .int .i64 st, .int .i64 en] 35)).alloc (.cells #[.int .i64 en] 3)).alloc (.cells #[.int .i64 0, .int .i64 0, .int .i64 0, .int .i64 0, .bool false, .int .i64 0, .int .i64 0, .int .i64 0] 35)).alloc (.cells #[.bool false] 4)).alloc (.cells #[.int .i64 mq, .int .i64 mp, .int .i64 0, .int .i64 0, .bool false, .int .i64 lf, .int .i64 st, .int .i64 en] 35)).alloc (.cells #[.int .i64 0, .int .i64 0, .int .i64 0, .int .i64 0, .bool false, .int .i64 0, .int .i64 0, .int .i64 0] 35)).frozen? ⟨w.heap.size + 1 + 1 + 1 + 1 + 1, 3, none⟩ = false := by simp only [frozen?_alloc_cells]; exact frozen_beyond _ _ _ (by omega)
  have k5_4 : ((((((w.alloc (.cells #[.int .i64 mq, .int .i64 mp, .int .i64 0, .int .i64 0, .bool false, .int .i64 lf, .int .i64 st, .int .i64 en] 35)).alloc (.cells #[.int .i64 en] 3)).alloc (.cells #[.int .i64 0, .int .i64 0, .int .i64 0, .int .i64 0, .bool false, .int .i64 0, .int .i64 0, .int .i64 0] 35)).alloc (.cells #[.bool false] 4)).alloc (.cells #[.int .i64 mq, .int .i64 mp, .int .i64 0, .int .i64 0, .bool false, .int .i64 lf, .int .i64 st, .int .i64 en] 35)).alloc (.cells #[.int .i64 0, .int .i64 0, .int .i64 0, .int .i64 0, .bool false, .int .i64 0, .int .i64 0, .int .i64 0] 35)).cell? ⟨w.heap.size + 1 + 1 + 1 + 1 + 1, 4, none⟩ = some (.bool false) := by rw [World.cell?_alloc_at _ _ _ _ (by simp)]; rfl
  have f5_4 : ((((((w.alloc (.cells #[.int .i64 mq, .int .i64 mp, .int .i64 0, .int .i64 0, .bool false, .int .i64 lf, .int .i64 st, .int .i64 en] 35)).alloc (.cells #[.int .i64 en] 3)).alloc (.cells #[.int .i64 0, .int .i64 0, .int .i64 0, .int .i64 0, .bool false, .int .i64 0, .int .i64 0, .int .i64 0] 35)).alloc (.cells #[.bool false] 4)).alloc (.cells #[.int .i64 mq, .int .i64 mp, .int .i64 0, .int .i64 0, .bool false, .int .i64 lf, .int .i64 st, .int .i64 en] 35)).alloc (.cells #[.int .i64 0, .int .i64 0, .int .i64 0, .int .i64 0, .bool false, .int .i64 0, .int .i64 0, .int .i64 0] 35)).frozen? ⟨w.heap.size + 1 + 1 + 1 + 1 + 1, 4, none⟩ = false := by simp only [frozen?_alloc_cells]; exact frozen_beyond _ _ _ (by omega)
  have k5_5 : ((((((w.alloc (.cells #[.int .i64 mq, .int .i64 mp, .int .i64 0, .int .i64 0, .bool false, .int .i64 lf, .int .i64 st, .int .i64 en] 35)).alloc (.cells #[.int .i64 en] 3)).alloc (.cells #[.int .i64 0, .int .i64 0, .int .i64 0, .int .i64 0, .bool false, .int .i64 0, .int .i64 0, .int .i64 0] 35)).alloc (.cells #[.bool false] 4)).alloc (.cells #[.int .i64 mq, .int .i64 mp, .int .i64 0, .int .i64 0, .bool false, .int .i64 lf, .int .i64 st, .int .i64 en] 35)).alloc (.cells #[.int .i64 0, .int .i64 0, .int .i64 0, .int .i64 0, .bool false, .int .i64 0, .int .i64 0, .int .i64 0] 35)).cell? ⟨w.heap.size + 1 + 1 + 1 + 1 + 1, 5, none⟩ = some (.int .i64 0) := by rw [World.cell?_alloc_at _ _ _ _ (by simp)]; rfl
  have f5_5 : ((((((w.alloc (.cells #[.int .i64 mq, .int .i64 mp, .int .i64 0, .int .i64 0, .bool false, .int .i64 lf, .int .i64 st, .int .i64 en] 35)).alloc (.cells #[.int .i64 en] 3)).alloc (.cells #[.int .i64 0, .int .i64 0, .int .i64 0, .int .i64 0, .bool false, .int .i64 0, .int .i64 0, .int .i64 0] 35)).alloc (.cells #[.bool false] 4)).alloc (.cells #[.int .i64 mq, .int .i64 mp, .int .i64 0, .int .i64 0, .bool false, .int .i64 lf, .int .i64 st, .int .i64 en] 35)).alloc (.cells #[.int .i64 0, .int .i64 0, .int .i64 0, .int .i64 0, .bool false, .int .i64 0, .int .i64 0, .int .i64 0] 35)).frozen? ⟨w.heap.size + 1 + 1 + 1 + 1 + 1, 5, none⟩ = false := by simp only [frozen?_alloc_cells]; exact frozen_beyond _ _ _ (by omega)
  have k5_6 : ((((((w.alloc (.cells #[.int .i64 mq, .int .i64 mp, .int .i64 0, .int .i64 0, .bool false, .int .i64 lf, .int .i64 st, .int .i64 en] 35)).alloc (.cells #[.int .i64 en] 3)).alloc (.cells #[.int .i64 0, .int .i64 0, .int .i64 0, .int .i64 0, .bool false, .int .i64 0, .int .i64 0, .int .i64 0] 35)).alloc (.cells #[.bool false] 4)).alloc (.cells #[.int .i64 mq, .int .i64 mp, .int .i64 0, .int .i64 0, .bool false, .int .i64 lf, .int .i64 st, .int .i64 en] 35)).alloc (.cells #[.int .i64 0, .int .i64 0, .int .i64 0, .int .i64 0, .bool false, .int .i64 0, .int .i64 0, .int .i64 0] 35)).cell? ⟨w.heap.size + 1 + 1 + 1 + 1 + 1, 6, none⟩ = some (.int .i64 0) := by rw [World.cell?_alloc_at _ _ _ _ (by simp)]; rfl
  have f5_6 : ((((((w.alloc (.cells #[.int .i64 mq, .int .i64 mp, .int .i64 0, .int .i64 0, .bool false, .int .i64 lf, .int .i64 st, .int .i64 en] 35)).alloc (.cells #[.int .i64 en] 3)).alloc (.cells #[.int .i64 0, .int .i64 0, .int .i64 0, .int .i64 0, .bool false, .int .i64 0, .int .i64 0, .int .i64 0] 35)).alloc (.cells #[.bool false] 4)).alloc (.cells #[.int .i64 mq, .int .i64 mp, .int .i64 0, .int .i64 0, .bool false, .int .i64 lf, .int .i64 st, .int .i64 en] 35)).alloc (.cells #[.int .i64 0, .int .i64 0, .int .i64 0, .int .i64 0, .bool false, .int .i64 0, .int .i64 0, .int .i64 0] 35)).frozen? ⟨w.heap.size + 1 + 1 + 1 + 1 + 1, 6, none⟩ = false := by simp only [frozen?_alloc_cells]; exact frozen_beyond _ _ _ (by omega)
  have k5_7 : ((((((w.alloc (.cells #[.int .i64 mq, .int .i64 mp, .int .i64 0, .int .i64 0, .bool false, .int .i64 lf, .int .i64 st, .int .i64 en] 35)).alloc (.cells #[.int .i64 en] 3)).alloc (.cells #[.int .i64 0, .int .i64 0, .int .i64 0, .int .i64 0, .bool false, .int .i64 0, .int .i64 0, .int .i64 0] 35)).alloc (.cells #[.bool false] 4)).alloc (.cells #[.int .i64 mq, .int .i64 mp, .int .i64 0, .int .i64 0, .bool false, .int .i64 lf, .int .i64 st, .int .i64 en] 35)).alloc (.cells #[.int .i64 0, .int .i64 0, .int .i64 0, .int .i64 0, .bool false, .int .i64 0, .int .i64 0, .int .i64 0] 35)).cell? ⟨w.heap.size + 1 + 1 + 1 + 1 + 1, 7, none⟩ = some (.int .i64 0) := by rw [World.cell?_alloc_at _ _ _ _ (by simp)]; rfl
  have f5_7 : ((((((w.alloc (.cells #[.int .i64 mq, .int .i64 mp, .int .i64 0, .int .i64 0, .bool false, .int .i64 lf, .int .i64 st, .int .i64 en] 35)).alloc (.cells #[.int .i64 en] 3)).alloc (.cells #[.int .i64 0, .int .i64 0, .int .i64 0, .int .i64 0, .bool false, .int .i64 0, .int .i64 0, .int .i64 0] 35)).alloc (.cells #[.bool false] 4)).alloc (.cells #[.int .i64 mq, .int .i64 mp, .int .i64 0, .int .i64 0, .bool false, .int .i64 lf, .int .i64 st, .int .i64 en] 35)).alloc (.cells #[.int .i64 0, .int .i64 0, .int .i64 0, .int .i64 0, .bool false, .int .i64 0, .int .i64 0, .int .i64 0] 35)).frozen? ⟨w.heap.size + 1 + 1 + 1 + 1 + 1, 7, none⟩ = false := by simp only [frozen?_alloc_cells]; exact frozen_beyond _ _ _ (by omega)
  have z_ : w.heap.size + 1 + 1 + 1 + 1 + 1 < ((((((w.alloc (.cells #[.int .i64 mq, .int .i64 mp, .int .i64 0, .int .i64 0, .bool false, .int .i64 lf, .int .i64 st, .int .i64 en] 35)).alloc (.cells #[.int .i64 en] 3)).alloc (.cells #[.int .i64 0, .int .i64 0, .int .i64 0, .int .i64 0, .bool false, .int .i64 0, .int .i64 0, .int .i64 0] 35)).alloc (.cells #[.bool false] 4)).alloc (.cells #[.int .i64 mq, .int .i64 mp, .int .i64 0, .int .i64 0, .bool false, .int .i64 lf, .int .i64 st, .int .i64 en] 35)).alloc (.cells #[.int .i64 0, .int .i64 0, .int .i64 0, .int .i64 0, .bool false, .int .i64 0, .int .i64 0, .int .i64 0] 35)).heap.size := by simp
  go_enter Try.func17, Try.ntmps17
  go_wp2_with (go_at_call 21; go_in)
  refine (bvalid_ok mq mp 0 0 false lf st en _ h).mono ?_
  rintro e w1 ⟨rfl, hb1⟩
  replace k0_0 := keep hb1 k0_0
  replace k0_1 := keep hb1 k0_1
  replace k0_2 := keep hb1 k0_2
  replace k0_3 := keep hb1 k0_3
  replace k0_4 := keep hb1 k0_4
  replace k0_5 := keep hb1 k0_5
  replace k0_6 := keep hb1 k0_6
  replace k0_7 := keep hb1 k0_7
  replace k1_0 := keep hb1 k1_0
  replace k2_0 := keep hb1 k2_0
  replace k2_1 := keep hb1 k2_1
  replace k2_2 := keep hb1 k2_2
  replace k2_3 := keep hb1 k2_3
  replace k2_4 := keep hb1 k2_4
  replace k2_5 := keep hb1 k2_5
  replace k2_6 := keep hb1 k2_6
  replace k2_7 := keep hb1 k2_7
  replace k3_0 := keep hb1 k3_0
  replace k4_0 := keep hb1 k4_0
  replace k4_1 := keep hb1 k4_1
  replace k4_2 := keep hb1 k4_2
  replace k4_3 := keep hb1 k4_3
  replace k4_4 := keep hb1 k4_4
  replace k4_5 := keep hb1 k4_5
  replace k4_6 := keep hb1 k4_6
  replace k4_7 := keep hb1 k4_7
  replace k5_0 := keep hb1 k5_0
  replace k5_1 := keep hb1 k5_1
  replace k5_2 := keep hb1 k5_2
  replace k5_3 := keep hb1 k5_3
  replace k5_4 := keep hb1 k5_4
  replace k5_5 := keep hb1 k5_5
  replace k5_6 := keep hb1 k5_6
  replace k5_7 := keep hb1 k5_7
  replace f2_0 := keepf hb1 (by omega) f2_0
  replace f2_1 := keepf hb1 (by omega) f2_1
  replace f2_2 := keepf hb1 (by omega) f2_2
  replace f2_3 := keepf hb1 (by omega) f2_3
  replace f2_4 := keepf hb1 (by omega) f2_4
  replace f2_5 := keepf hb1 (by omega) f2_5
  replace f2_6 := keepf hb1 (by omega) f2_6
  replace f2_7 := keepf hb1 (by omega) f2_7
  replace f3_0 := keepf hb1 (by omega) f3_0
  replace f4_0 := keepf hb1 (by omega) f4_0
  replace f4_1 := keepf hb1 (by omega) f4_1
  replace f4_2 := keepf hb1 (by omega) f4_2
  replace f4_3 := keepf hb1 (by omega) f4_3
  replace f4_4 := keepf hb1 (by omega) f4_4
  replace f4_5 := keepf hb1 (by omega) f4_5
  replace f4_6 := keepf hb1 (by omega) f4_6
  replace f4_7 := keepf hb1 (by omega) f4_7
  replace f5_0 := keepf hb1 (by omega) f5_0
  replace f5_1 := keepf hb1 (by omega) f5_1
  replace f5_2 := keepf hb1 (by omega) f5_2
  replace f5_3 := keepf hb1 (by omega) f5_3
  replace f5_4 := keepf hb1 (by omega) f5_4
  replace f5_5 := keepf hb1 (by omega) f5_5
  replace f5_6 := keepf hb1 (by omega) f5_6
  replace f5_7 := keepf hb1 (by omega) f5_7
  replace z_ := Nat.lt_of_lt_of_le z_ hb1.size
  replace HB := below_call HB (Nat.le_refl _) hb1
  clear hb1
  clear h
  go_wp2_with (go_at_call 25; go_in)
  go_quiet (fail)
  obtain ⟨w2, hw2⟩ : ∃ x, x = w1.drewN nq := ⟨_, rfl⟩
  rw [← hw2]
  have n_k0_0 : w2.cell? ⟨w.heap.size, 0, none⟩ = some (.int .i64 mq) := by rw [hw2]; repeat (first | (with_reducible exact k0_0) | (with_reducible refine cdn ?_ _) | (with_reducible refine cdr ?_) | (with_reducible refine css ?_) | (with_reducible refine cso (by simp <;> omega) ?_) | (with_reducible refine iss ?_) | (with_reducible refine idn ?_ _) | (rw [k0_0]; done) | (rw [k0_0]; rfl))
  have n_k0_1 : w2.cell? ⟨w.heap.size, 1, none⟩ = some (.int .i64 mp) := by rw [hw2]; repeat (first | (with_reducible exact k0_1) | (with_reducible refine cdn ?_ _) | (with_reducible refine cdr ?_) | (with_reducible refine css ?_) | (with_reducible refine cso (by simp <;> omega) ?_) | (with_reducible refine iss ?_) | (with_reducible refine idn ?_ _) | (rw [k0_1]; done) | (rw [k0_1]; rfl))
  have n_k0_2 : w2.cell? ⟨w.heap.size, 2, none⟩ = some (.int .i64 0) := by rw [hw2]; repeat (first | (with_reducible exact k0_2) | (with_reducible refine cdn ?_ _) | (with_reducible refine cdr ?_) | (with_reducible refine css ?_) | (with_reducible refine cso (by simp <;> omega) ?_) | (with_reducible refine iss ?_) | (with_reducible refine idn ?_ _) | (rw [k0_2]; done) | (rw [k0_2]; rfl))
  have n_k0_3 : w2.cell? ⟨w.heap.size, 3, none⟩ = some (.int .i64 0) := by rw [hw2]; repeat (first | (with_reducible exact k0_3) | (with_reducible refine cdn ?_ _) | (with_reducible refine cdr ?_) | (with_reducible refine css ?_) | (with_reducible refine cso (by simp <;> omega) ?_) | (with_reducible refine iss ?_) | (with_reducible refine idn ?_ _) | (rw [k0_3]; done) | (rw [k0_3]; rfl))
  have n_k0_4 : w2.cell? ⟨w.heap.size, 4, none⟩ = some (.bool false) := by rw [hw2]; repeat (first | (with_reducible exact k0_4) | (with_reducible refine cdn ?_ _) | (with_reducible refine cdr ?_) | (with_reducible refine css ?_) | (with_reducible refine cso (by simp <;> omega) ?_) | (with_reducible refine iss ?_) | (with_reducible refine idn ?_ _) | (rw [k0_4]; done) | (rw [k0_4]; rfl))
  have n_k0_5 : w2.cell? ⟨w.heap.size, 5, none⟩ = some (.int .i64 lf) := by rw [hw2]; repeat (first | (with_reducible exact k0_5) | (with_reducible refine cdn ?_ _) | (with_reducible refine cdr ?_) | (with_reducible refine css ?_) | (with_reducible refine cso (by simp <;> omega) ?_) | (with_reducible refine iss ?_) | (with_reducible refine idn ?_ _) | (rw [k0_5]; done) | (rw [k0_5]; rfl))
  have n_k0_6 : w2.cell? ⟨w.heap.size, 6, none⟩ = some (.int .i64 st) := by rw [hw2]; repeat (first | (with_reducible exact k0_6) | (with_reducible refine cdn ?_ _) | (with_reducible refine cdr ?_) | (with_reducible refine css ?_) | (with_reducible refine cso (by simp <;> omega) ?_) | (with_reducible refine iss ?_) | (with_reducible refine idn ?_ _) | (rw [k0_6]; done) | (rw [k0_6]; rfl))
  have n_k0_7 : w2.cell? ⟨w.heap.size, 7, none⟩ = some (.int .i64 en) := by rw [hw2]; repeat (first | (with_reducible exact k0_7) | (with_reducible refine cdn ?_ _) | (with_reducible refine cdr ?_) | (with_reducible refine css ?_) | (with_reducible refine cso (by simp <;> omega) ?_) | (with_reducible refine iss ?_) | (with_reducible refine idn ?_ _) | (rw [k0_7]; done) | (rw [k0_7]; rfl))
  have n_k1_0 : w2.cell? ⟨w.heap.size + 1, 0, none⟩ = some (.int .i64 en) := by rw [hw2]; repeat (first | (with_reducible exact k1_0) | (with_reducible refine cdn ?_ _) | (with_reducible refine cdr ?_) | (with_reducible refine css ?_) | (with_reducible refine cso (by simp <;> omega) ?_) | (with_reducible refine iss ?_) | (with_reducible refine idn ?_ _) | (rw [k1_0]; done) | (rw [k1_0]; rfl))
  have n_k2_0 : w2.cell? ⟨w.heap.size + 1 + 1, 0, none⟩ = some (.int .i64 0) := by rw [hw2]; repeat (first | (with_reducible exact k2_0) | (with_reducible refine cdn ?_ _) | (with_reducible refine cdr ?_) | (with_reducible refine css ?_) | (with_reducible refine cso (by simp <;> omega) ?_) | (with_reducible refine iss ?_) | (with_reducible refine idn ?_ _) | (rw [k2_0]; done) | (rw [k2_0]; rfl))
  have n_k2_1 : w2.cell? ⟨w.heap.size + 1 + 1, 1, none⟩ = some (.int .i64 0) := by rw [hw2]; repeat (first | (with_reducible exact k2_1) | (with_reducible refine cdn ?_ _) | (with_reducible refine cdr ?_) | (with_reducible refine css ?_) | (with_reducible refine cso (by simp <;> omega) ?_) | (with_reducible refine iss ?_) | (with_reducible refine idn ?_ _) | (rw [k2_1]; done) | (rw [k2_1]; rfl))
  have n_k2_2 : w2.cell? ⟨w.heap.size + 1 + 1, 2, none⟩ = some (.int .i64 0) := by rw [hw2]; repeat (first | (with_reducible exact k2_2) | (with_reducible refine cdn ?_ _) | (with_reducible refine cdr ?_) | (with_reducible refine css ?_) | (with_reducible refine cso (by simp <;> omega) ?_) | (with_reducible refine iss ?_) | (with_reducible refine idn ?_ _) | (rw [k2_2]; done) | (rw [k2_2]; rfl))
  have n_k2_3 : w2.cell? ⟨w.heap.size + 1 + 1, 3, none⟩ = some (.int .i64 0) := by rw [hw2]; repeat (first | (with_reducible exact k2_3) | (with_reducible refine cdn ?_ _) | (with_reducible refine cdr ?_) | (with_reducible refine css ?_) | (with_reducible refine cso (by simp <;> omega) ?_) | (with_reducible refine iss ?_) | (with_reducible refine idn ?_ _) | (rw [k2_3]; done) | (rw [k2_3]; rfl))
  have n_k2_4 : w2.cell? ⟨w.heap.size + 1 + 1, 4, none⟩ = some (.bool false) := by rw [hw2]; repeat (first | (with_reducible exact k2_4) | (with_reducible refine cdn ?_ _) | (with_reducible refine cdr ?_) | (with_reducible refine css ?_) | (with_reducible refine cso (by simp <;> omega) ?_) | (with_reducible refine iss ?_) | (with_reducible refine idn ?_ _) | (rw [k2_4]; done) | (rw [k2_4]; rfl))
  have n_k2_5 : w2.cell? ⟨w.heap.size + 1 + 1, 5, none⟩ = some (.int .i64 0) := by rw [hw2]; repeat (first | (with_reducible exact k2_5) | (with_reducible refine cdn ?_ _) | (with_reducible refine cdr ?_) | (with_reducible refine css ?_) | (with_reducible refine cso (by simp <;> omega) ?_) | (with_reducible refine iss ?_) | (with_reducible refine idn ?_ _) | (rw [k2_5]; done) | (rw [k2_5]; rfl))
  have n_k2_6 : w2.cell? ⟨w.heap.size + 1 + 1, 6, none⟩ = some (.int .i64 0) := by rw [hw2]; repeat (first | (with_reducible exact k2_6) | (with_reducible refine cdn ?_ _) | (with_reducible refine cdr ?_) | (with_reducible refine css ?_) | (with_reducible refine cso (by simp <;> omega) ?_) | (with_reducible refine iss ?_) | (with_reducible refine idn ?_ _) | (rw [k2_6]; done) | (rw [k2_6]; rfl))
  have n_k2_7 : w2.cell? ⟨w.heap.size + 1 + 1, 7, none⟩ = some (.int .i64 0) := by rw [hw2]; repeat (first | (with_reducible exact k2_7) | (with_reducible refine cdn ?_ _) | (with_reducible refine cdr ?_) | (with_reducible refine css ?_) | (with_reducible refine cso (by simp <;> omega) ?_) | (with_reducible refine iss ?_) | (with_reducible refine idn ?_ _) | (rw [k2_7]; done) | (rw [k2_7]; rfl))
  have n_k3_0 : w2.cell? ⟨w.heap.size + 1 + 1 + 1, 0, none⟩ = some (.bool false) := by rw [hw2]; repeat (first | (with_reducible exact k3_0) | (with_reducible refine cdn ?_ _) | (with_reducible refine cdr ?_) | (with_reducible refine css ?_) | (with_reducible refine cso (by simp <;> omega) ?_) | (with_reducible refine iss ?_) | (with_reducible refine idn ?_ _) | (rw [k3_0]; done) | (rw [k3_0]; rfl))
  have n_k4_0 : w2.cell? ⟨w.heap.size + 1 + 1 + 1 + 1, 0, none⟩ = some (.int .i64 mq) := by rw [hw2]; repeat (first | (with_reducible exact k4_0) | (with_reducible refine cdn ?_ _) | (with_reducible refine cdr ?_) | (with_reducible refine css ?_) | (with_reducible refine cso (by simp <;> omega) ?_) | (with_reducible refine iss ?_) | (with_reducible refine idn ?_ _) | (rw [k4_0]; done) | (rw [k4_0]; rfl))
  have n_k4_1 : w2.cell? ⟨w.heap.size + 1 + 1 + 1 + 1, 1, none⟩ = some (.int .i64 mp) := by rw [hw2]; repeat (first | (with_reducible exact k4_1) | (with_reducible refine cdn ?_ _) | (with_reducible refine cdr ?_) | (with_reducible refine css ?_) | (with_reducible refine cso (by simp <;> omega) ?_) | (with_reducible refine iss ?_) | (with_reducible refine idn ?_ _) | (rw [k4_1]; done) | (rw [k4_1]; rfl))
  have n_k4_2 : w2.cell? ⟨w.heap.size + 1 + 1 + 1 + 1, 2, none⟩ = some (.int .i64 0) := by rw [hw2]; repeat (first | (with_reducible exact k4_2) | (with_reducible refine cdn ?_ _) | (with_reducible refine cdr ?_) | (with_reducible refine css ?_) | (with_reducible refine cso (by simp <;> omega) ?_) | (with_reducible refine iss ?_) | (with_reducible refine idn ?_ _) | (rw [k4_2]; done) | (rw [k4_2]; rfl))
  have n_k4_3 : w2.cell? ⟨w.heap.size + 1 + 1 + 1 + 1, 3, none⟩ = some (.int .i64 0) := by rw [hw2]; repeat (first | (with_reducible exact k4_3) | (with_reducible refine cdn ?_ _) | (with_reducible refine cdr ?_) | (with_reducible refine css ?_) | (with_reducible refine cso (by simp <;> omega) ?_) | (with_reducible refine iss ?_) | (with_reducible refine idn ?_ _) | (rw [k4_3]; done) | (rw [k4_3]; rfl))
  have n_k4_4 : w2.cell? ⟨w.heap.size + 1 + 1 + 1 + 1, 4, none⟩ = some (.bool false) := by rw [hw2]; repeat (first | (with_reducible exact k4_4) | (with_reducible refine cdn ?_ _) | (with_reducible refine cdr ?_) | (with_reducible refine css ?_) | (with_reducible refine cso (by simp <;> omega) ?_) | (with_reducible refine iss ?_) | (with_reducible refine idn ?_ _) | (rw [k4_4]; done) | (rw [k4_4]; rfl))
  have n_k4_5 : w2.cell? ⟨w.heap.size + 1 + 1 + 1 + 1, 5, none⟩ = some (.int .i64 lf) := by rw [hw2]; repeat (first | (with_reducible exact k4_5) | (with_reducible refine cdn ?_ _) | (with_reducible refine cdr ?_) | (with_reducible refine css ?_) | (with_reducible refine cso (by simp <;> omega) ?_) | (with_reducible refine iss ?_) | (with_reducible refine idn ?_ _) | (rw [k4_5]; done) | (rw [k4_5]; rfl))
  have n_k4_6 : w2.cell? ⟨w.heap.size + 1 + 1 + 1 + 1, 6, none⟩ = some (.int .i64 st) := by rw [hw2]; repeat (first | (with_reducible exact k4_6) | (with_reducible refine cdn ?_ _) | (with_reducible refine cdr ?_) | (with_reducible refine css ?_) | (with_reducible refine cso (by simp <;> omega) ?_) | (with_reducible refine iss ?_) | (with_reducible refine idn ?_ _) | (rw [k4_6]; done) | (rw [k4_6]; rfl))
  have n_k4_7 : w2.cell? ⟨w.heap.size + 1 + 1 + 1 + 1, 7, none⟩ = some (.int .i64 en) := by rw [hw2]; repeat (first | (with_reducible exact k4_7) | (with_reducible refine cdn ?_ _) | (with_reducible refine cdr ?_) | (with_reducible refine css ?_) | (with_reducible refine cso (by simp <;> omega) ?_) | (with_reducible refine iss ?_) | (with_reducible refine idn ?_ _) | (rw [k4_7]; done) | (rw [k4_7]; rfl))
  have n_k5_0 : w2.cell? ⟨w.heap.size + 1 + 1 + 1 + 1 + 1, 0, none⟩ = some (.int .i64 0) := by rw [hw2]; repeat (first | (with_reducible exact k5_0) | (with_reducible refine cdn ?_ _) | (with_reducible refine cdr ?_) | (with_reducible refine css ?_) | (with_reducible refine cso (by simp <;> omega) ?_) | (with_reducible refine iss ?_) | (with_reducible refine idn ?_ _) | (rw [k5_0]; done) | (rw [k5_0]; rfl))
  have n_k5_1 : w2.cell? ⟨w.heap.size + 1 + 1 + 1 + 1 + 1, 1, none⟩ = some (.int .i64 0) := by rw [hw2]; repeat (first | (with_reducible exact k5_1) | (with_reducible refine cdn ?_ _) | (with_reducible refine cdr ?_) | (with_reducible refine css ?_) | (with_reducible refine cso (by simp <;> omega) ?_) | (with_reducible refine iss ?_) | (with_reducible refine idn ?_ _) | (rw [k5_1]; done) | (rw [k5_1]; rfl))
  have n_k5_2 : w2.cell? ⟨w.heap.size + 1 + 1 + 1 + 1 + 1, 2, none⟩ = some (.int .i64 0) := by rw [hw2]; repeat (first | (with_reducible exact k5_2) | (with_reducible refine cdn ?_ _) | (with_reducible refine cdr ?_) | (with_reducible refine css ?_) | (with_reducible refine cso (by simp <;> omega) ?_) | (with_reducible refine iss ?_) | (with_reducible refine idn ?_ _) | (rw [k5_2]; done) | (rw [k5_2]; rfl))
  have n_k5_3 : w2.cell? ⟨w.heap.size + 1 + 1 + 1 + 1 + 1, 3, none⟩ = some (.int .i64 0) := by rw [hw2]; repeat (first | (with_reducible exact k5_3) | (with_reducible refine cdn ?_ _) | (with_reducible refine cdr ?_) | (with_reducible refine css ?_) | (with_reducible refine cso (by simp <;> omega) ?_) | (with_reducible refine iss ?_) | (with_reducible refine idn ?_ _) | (rw [k5_3]; done) | (rw [k5_3]; rfl))
  have n_k5_4 : w2.cell? ⟨w.heap.size + 1 + 1 + 1 + 1 + 1, 4, none⟩ = some (.bool false) := by rw [hw2]; repeat (first | (with_reducible exact k5_4) | (with_reducible refine cdn ?_ _) | (with_reducible refine cdr ?_) | (with_reducible refine css ?_) | (with_reducible refine cso (by simp <;> omega) ?_) | (with_reducible refine iss ?_) | (with_reducible refine idn ?_ _) | (rw [k5_4]; done) | (rw [k5_4]; rfl))
  have n_k5_5 : w2.cell? ⟨w.heap.size + 1 + 1 + 1 + 1 + 1, 5, none⟩ = some (.int .i64 0) := by rw [hw2]; repeat (first | (with_reducible exact k5_5) | (with_reducible refine cdn ?_ _) | (with_reducible refine cdr ?_) | (with_reducible refine css ?_) | (with_reducible refine cso (by simp <;> omega) ?_) | (with_reducible refine iss ?_) | (with_reducible refine idn ?_ _) | (rw [k5_5]; done) | (rw [k5_5]; rfl))
  have n_k5_6 : w2.cell? ⟨w.heap.size + 1 + 1 + 1 + 1 + 1, 6, none⟩ = some (.int .i64 0) := by rw [hw2]; repeat (first | (with_reducible exact k5_6) | (with_reducible refine cdn ?_ _) | (with_reducible refine cdr ?_) | (with_reducible refine css ?_) | (with_reducible refine cso (by simp <;> omega) ?_) | (with_reducible refine iss ?_) | (with_reducible refine idn ?_ _) | (rw [k5_6]; done) | (rw [k5_6]; rfl))
  have n_k5_7 : w2.cell? ⟨w.heap.size + 1 + 1 + 1 + 1 + 1, 7, none⟩ = some (.int .i64 0) := by rw [hw2]; repeat (first | (with_reducible exact k5_7) | (with_reducible refine cdn ?_ _) | (with_reducible refine cdr ?_) | (with_reducible refine css ?_) | (with_reducible refine cso (by simp <;> omega) ?_) | (with_reducible refine iss ?_) | (with_reducible refine idn ?_ _) | (rw [k5_7]; done) | (rw [k5_7]; rfl))
  have n_f2_0 : w2.frozen? ⟨w.heap.size + 1 + 1, 0, none⟩ = false := by rw [hw2]; simp [f2_0]
  have n_f2_1 : w2.frozen? ⟨w.heap.size + 1 + 1, 1, none⟩ = false := by rw [hw2]; simp [f2_1]
  have n_f2_2 : w2.frozen? ⟨w.heap.size + 1 + 1, 2, none⟩ = false := by rw [hw2]; simp [f2_2]
  have n_f2_3 : w2.frozen? ⟨w.heap.size + 1 + 1, 3, none⟩ = false := by rw [hw2]; simp [f2_3]
  have n_f2_4 : w2.frozen? ⟨w.heap.size + 1 + 1, 4, none⟩ = false := by rw [hw2]; simp [f2_4]
  have n_f2_5 : w2.frozen? ⟨w.heap.size + 1 + 1, 5, none⟩ = false := by rw [hw2]; simp [f2_5]
  have n_f2_6 : w2.frozen? ⟨w.heap.size + 1 + 1, 6, none⟩ = false := by rw [hw2]; simp [f2_6]
  have n_f2_7 : w2.frozen? ⟨w.heap.size + 1 + 1, 7, none⟩ = false := by rw [hw2]; simp [f2_7]
  have n_f3_0 : w2.frozen? ⟨w.heap.size + 1 + 1 + 1, 0, none⟩ = false := by rw [hw2]; simp [f3_0]
  have n_f4_0 : w2.frozen? ⟨w.heap.size + 1 + 1 + 1 + 1, 0, none⟩ = false := by rw [hw2]; simp [f4_0]
  have n_f4_1 : w2.frozen? ⟨w.heap.size + 1 + 1 + 1 + 1, 1, none⟩ = false := by rw [hw2]; simp [f4_1]
  have n_f4_2 : w2.frozen? ⟨w.heap.size + 1 + 1 + 1 + 1, 2, none⟩ = false := by rw [hw2]; simp [f4_2]
  have n_f4_3 : w2.frozen? ⟨w.heap.size + 1 + 1 + 1 + 1, 3, none⟩ = false := by rw [hw2]; simp [f4_3]
  have n_f4_4 : w2.frozen? ⟨w.heap.size + 1 + 1 + 1 + 1, 4, none⟩ = false := by rw [hw2]; simp [f4_4]
  have n_f4_5 : w2.frozen? ⟨w.heap.size + 1 + 1 + 1 + 1, 5, none⟩ = false := by rw [hw2]; simp [f4_5]
  have n_f4_6 : w2.frozen? ⟨w.heap.size + 1 + 1 + 1 + 1, 6, none⟩ = false := by rw [hw2]; simp [f4_6]
  have n_f4_7 : w2.frozen? ⟨w.heap.size + 1 + 1 + 1 + 1, 7, none⟩ = false := by rw [hw2]; simp [f4_7]
  have n_f5_0 : w2.frozen? ⟨w.heap.size + 1 + 1 + 1 + 1 + 1, 0, none⟩ = false := by rw [hw2]; simp [f5_0]
  have n_f5_1 : w2.frozen? ⟨w.heap.size + 1 + 1 + 1 + 1 + 1, 1, none⟩ = false := by rw [hw2]; simp [f5_1]
  have n_f5_2 : w2.frozen? ⟨w.heap.size + 1 + 1 + 1 + 1 + 1, 2, none⟩ = false := by rw [hw2]; simp [f5_2]
  have n_f5_3 : w2.frozen? ⟨w.heap.size + 1 + 1 + 1 + 1 + 1, 3, none⟩ = false := by rw [hw2]; simp [f5_3]
  have n_f5_4 : w2.frozen? ⟨w.heap.size + 1 + 1 + 1 + 1 + 1, 4, none⟩ = false := by rw [hw2]; simp [f5_4]
  have n_f5_5 : w2.frozen? ⟨w.heap.size + 1 + 1 + 1 + 1 + 1, 5, none⟩ = false := by rw [hw2]; simp [f5_5]
  have n_f5_6 : w2.frozen? ⟨w.heap.size + 1 + 1 + 1 + 1 + 1, 6, none⟩ = false := by rw [hw2]; simp [f5_6]
  have n_f5_7 : w2.frozen? ⟨w.heap.size + 1 + 1 + 1 + 1 + 1, 7, none⟩ = false := by rw [hw2]; simp [f5_7]
  replace z_ : w.heap.size + 1 + 1 + 1 + 1 + 1 < w2.heap.size := by rw [hw2]; simpa using z_
  have hs_2 : w1.heap.size = w2.heap.size := by rw [hw2]; simp
  replace HB : Below w.heap.size w w2 := by
    rw [hw2]
    repeat (first | (with_reducible exact HB) | (with_reducible refine below_drewN' ?_ _) | (with_reducible refine Below.drew ?_) | (with_reducible refine Below.setCell ?_ (by simp <;> omega) _))
  clear hw2 k0_0 k0_1 k0_2 k0_3 k0_4 k0_5 k0_6 k0_7 k1_0 k2_0 k2_1 k2_2 k2_3 k2_4 k2_5 k2_6 k2_7 k3_0 k4_0 k4_1 k4_2 k4_3 k4_4 k4_5 k4_6 k4_7 k5_0 k5_1 k5_2 k5_3 k5_4 k5_5 k5_6 k5_7 f2_0 f2_1 f2_2 f2_3 f2_4 f2_5 f2_6 f2_7 f3_0 f4_0 f4_1 f4_2 f4_3 f4_4 f4_5 f4_6 f4_7 f5_0 f5_1 f5_2 f5_3 f5_4 f5_5 f5_6 f5_7
  have k0_0 := n_k0_0; clear n_k0_0
  have k0_1 := n_k0_1; clear n_k0_1
  have k0_2 := n_k0_2; clear n_k0_2
  have k0_3 := n_k0_3; clear n_k0_3
  have k0_4 := n_k0_4; clear n_k0_4
  have k0_5 := n_k0_5; clear n_k0_5
  have k0_6 := n_k0_6; clear n_k0_6
  have k0_7 := n_k0_7; clear n_k0_7
  have k1_0 := n_k1_0; clear n_k1_0
  have k2_0 := n_k2_0; clear n_k2_0
  have k2_1 := n_k2_1; clear n_k2_1
  have k2_2 := n_k2_2; clear n_k2_2
  have k2_3 := n_k2_3; clear n_k2_3
  have k2_4 := n_k2_4; clear n_k2_4
  have k2_5 := n_k2_5; clear n_k2_5
  have k2_6 := n_k2_6; clear n_k2_6
  have k2_7 := n_k2_7; clear n_k2_7
  have k3_0 := n_k3_0; clear n_k3_0
  have k4_0 := n_k4_0; clear n_k4_0
  have k4_1 := n_k4_1; clear n_k4_1
  have k4_2 := n_k4_2; clear n_k4_2
  have k4_3 := n_k4_3; clear n_k4_3
  have k4_4 := n_k4_4; clear n_k4_4
  have k4_5 := n_k4_5; clear n_k4_5
  have k4_6 := n_k4_6; clear n_k4_6
  have k4_7 := n_k4_7; clear n_k4_7
  have k5_0 := n_k5_0; clear n_k5_0
  have k5_1 := n_k5_1; clear n_k5_1
  have k5_2 := n_k5_2; clear n_k5_2
  have k5_3 := n_k5_3; clear n_k5_3
  have k5_4 := n_k5_4; clear n_k5_4
  have k5_5 := n_k5_5; clear n_k5_5
  have k5_6 := n_k5_6; clear n_k5_6
  have k5_7 := n_k5_7; clear n_k5_7
  have f2_0 := n_f2_0; clear n_f2_0
  have f2_1 := n_f2_1; clear n_f2_1
  have f2_2 := n_f2_2; clear n_f2_2
  have f2_3 := n_f2_3; clear n_f2_3
  have f2_4 := n_f2_4; clear n_f2_4
  have f2_5 := n_f2_5; clear n_f2_5
  have f2_6 := n_f2_6; clear n_f2_6
  have f2_7 := n_f2_7; clear n_f2_7
  have f3_0 := n_f3_0; clear n_f3_0
  have f4_0 := n_f4_0; clear n_f4_0
  have f4_1 := n_f4_1; clear n_f4_1
  have f4_2 := n_f4_2; clear n_f4_2
  have f4_3 := n_f4_3; clear n_f4_3
  have f4_4 := n_f4_4; clear n_f4_4
  have f4_5 := n_f4_5; clear n_f4_5
  have f4_6 := n_f4_6; clear n_f4_6
  have f4_7 := n_f4_7; clear n_f4_7
  have f5_0 := n_f5_0; clear n_f5_0
  have f5_1 := n_f5_1; clear n_f5_1
  have f5_2 := n_f5_2; clear n_f5_2
  have f5_3 := n_f5_3; clear n_f5_3
  have f5_4 := n_f5_4; clear n_f5_4
  have f5_5 := n_f5_5; clear n_f5_5
  have f5_6 := n_f5_6; clear n_f5_6
  have f5_7 := n_f5_7; clear n_f5_7
  clear hs_2
  go_wp2_with fail
  go_still_tail 20, (by kernel_rfl)
  change wpList _ _ _ _ _ w2.drew
  obtain ⟨w3, hw3⟩ : ∃ x, x = w2.drew := ⟨_, rfl⟩
  rw [← hw3]
  have n_k0_0 : w3.cell? ⟨w.heap.size, 0, none⟩ = some (.int .i64 mq) := by rw [hw3]; repeat (first | (with_reducible exact k0_0) | (with_reducible refine cdn ?_ _) | (with_reducible refine cdr ?_) | (with_reducible refine css ?_) | (with_reducible refine cso (by simp <;> omega) ?_) | (with_reducible refine iss ?_) | (with_reducible refine idn ?_ _) | (rw [k0_0]; done) | (rw [k0_0]; rfl))
  have n_k0_1 : w3.cell? ⟨w.heap.size, 1, none⟩ = some (.int .i64 mp) := by rw [hw3]; repeat (first | (with_reducible exact k0_1) | (with_reducible refine cdn ?_ _) | (with_reducible refine cdr ?_) | (with_reducible refine css ?_) | (with_reducible refine cso (by simp <;> omega) ?_) | (with_reducible refine iss ?_) | (with_reducible refine idn ?_ _) | (rw [k0_1]; done) | (rw [k0_1]; rfl))
  have n_k0_2 : w3.cell? ⟨w.heap.size, 2, none⟩ = some (.int .i64 0) := by rw [hw3]; repeat (first | (with_reducible exact k0_2) | (with_reducible refine cdn ?_ _) | (with_reducible refine cdr ?_) | (with_reducible refine css ?_) | (with_reducible refine cso (by simp <;> omega) ?_) | (with_reducible refine iss ?_) | (with_reducible refine idn ?_ _) | (rw [k0_2]; done) | (rw [k0_2]; rfl))
  have n_k0_3 : w3.cell? ⟨w.heap.size, 3, none⟩ = some (.int .i64 0) := by rw [hw3]; repeat (first | (with_reducible exact k0_3) | (with_reducible refine cdn ?_ _) | (with_reducible refine cdr ?_) | (with_reducible refine css ?_) | (with_reducible refine cso (by simp <;> omega) ?_) | (with_reducible refine iss ?_) | (with_reducible refine idn ?_ _) | (rw [k0_3]; done) | (rw [k0_3]; rfl))
  have n_k0_4 : w3.cell? ⟨w.heap.size, 4, none⟩ = some (.bool false) := by rw [hw3]; repeat (first | (with_reducible exact k0_4) | (with_reducible refine cdn ?_ _) | (with_reducible refine cdr ?_) | (with_reducible refine css ?_) | (with_reducible refine cso (by simp <;> omega) ?_) | (with_reducible refine iss ?_) | (with_reducible refine idn ?_ _) | (rw [k0_4]; done) | (rw [k0_4]; rfl))
  have n_k0_5 : w3.cell? ⟨w.heap.size, 5, none⟩ = some (.int .i64 lf) := by rw [hw3]; repeat (first | (with_reducible exact k0_5) | (with_reducible refine cdn ?_ _) | (with_reducible refine cdr ?_) | (with_reducible refine css ?_) | (with_reducible refine cso (by simp <;> omega) ?_) | (with_reducible refine iss ?_) | (with_reducible refine idn ?_ _) | (rw [k0_5]; done) | (rw [k0_5]; rfl))
  have n_k0_6 : w3.cell? ⟨w.heap.size, 6, none⟩ = some (.int .i64 st) := by rw [hw3]; repeat (first | (with_reducible exact k0_6) | (with_reducible refine cdn ?_ _) | (with_reducible refine cdr ?_) | (with_reducible refine css ?_) | (with_reducible refine cso (by simp <;> omega) ?_) | (with_reducible refine iss ?_) | (with_reducible refine idn ?_ _) | (rw [k0_6]; done) | (rw [k0_6]; rfl))
  have n_k0_7 : w3.cell? ⟨w.heap.size, 7, none⟩ = some (.int .i64 en) := by rw [hw3]; repeat (first | (with_reducible exact k0_7) | (with_reducible refine cdn ?_ _) | (with_reducible refine cdr ?_) | (with_reducible refine css ?_) | (with_reducible refine cso (by simp <;> omega) ?_) | (with_reducible refine iss ?_) | (with_reducible refine idn ?_ _) | (rw [k0_7]; done) | (rw [k0_7]; rfl))
  have n_k1_0 : w3.cell? ⟨w.heap.size + 1, 0, none⟩ = some (.int .i64 en) := by rw [hw3]; repeat (first | (with_reducible exact k1_0) | (with_reducible refine cdn ?_ _) | (with_reducible refine cdr ?_) | (with_reducible refine css ?_) | (with_reducible refine cso (by simp <;> omega) ?_) | (with_reducible refine iss ?_) | (with_reducible refine idn ?_ _) | (rw [k1_0]; done) | (rw [k1_0]; rfl))
  have n_k2_0 : w3.cell? ⟨w.heap.size + 1 + 1, 0, none⟩ = some (.int .i64 0) := by rw [hw3]; repeat (first | (with_reducible exact k2_0) | (with_reducible refine cdn ?_ _) | (with_reducible refine cdr ?_) | (with_reducible refine css ?_) | (with_reducible refine cso (by simp <;> omega) ?_) | (with_reducible refine iss ?_) | (with_reducible refine idn ?_ _) | (rw [k2_0]; done) | (rw [k2_0]; rfl))
  have n_k2_1 : w3.cell? ⟨w.heap.size + 1 + 1, 1, none⟩ = some (.int .i64 0) := by rw [hw3]; repeat (first | (with_reducible exact k2_1) | (with_reducible refine cdn ?_ _) | (with_reducible refine cdr ?_) | (with_reducible refine css ?_) | (with_reducible refine cso (by simp <;> omega) ?_) | (with_reducible refine iss ?_) | (with_reducible refine idn ?_ _) | (rw [k2_1]; done) | (rw [k2_1]; rfl))
  have n_k2_2 : w3.cell? ⟨w.heap.size + 1 + 1, 2, none⟩ = some (.int .i64 0) := by rw [hw3]; repeat (first | (with_reducible exact k2_2) | (with_reducible refine cdn ?_ _) | (with_reducible refine cdr ?_) | (with_reducible refine css ?_) | (with_reducible refine cso (by simp <;> omega) ?_) | (with_reducible refine iss ?_) | (with_reducible refine idn ?_ _) | (rw [k2_2]; done) | (rw [k2_2]; rfl))
  have n_k2_3 : w3.cell? ⟨w.heap.size + 1 + 1, 3, none⟩ = some (.int .i64 0) := by rw [hw3]; repeat (first | (with_reducible exact k2_3) | (with_reducible refine cdn ?_ _) | (with_reducible refine cdr ?_) | (with_reducible refine css ?_) | (with_reducible refine cso (by simp <;> omega) ?_) | (with_reducible refine iss ?_) | (with_reducible refine idn ?_ _) | (rw [k2_3]; done) | (rw [k2_3]; rfl))
  have n_k2_4 : w3.cell? ⟨w.heap.size + 1 + 1, 4, none⟩ = some (.bool false) := by rw [hw3]; repeat (first | (with_reducible exact k2_4) | (with_reducible refine cdn ?_ _) | (with_reducible refine cdr ?_) | (with_reducible refine css ?_) | (with_reducible refine cso (by simp <;> omega) ?_) | (with_reducible refine iss ?_) | (with_reducible refine idn ?_ _) | (rw [k2_4]; done) | (rw [k2_4]; rfl))
  have n_k2_5 : w3.cell? ⟨w.heap.size + 1 + 1, 5, none⟩ = some (.int .i64 0) := by rw [hw3]; repeat (first | (with_reducible exact k2_5) | (with_reducible refine cdn ?_ _) | (with_reducible refine cdr ?_) | (with_reducible refine css ?_) | (with_reducible refine cso (by simp <;> omega) ?_) | (with_reducible refine iss ?_) | (with_reducible refine idn ?_ _) | (rw [k2_5]; done) | (rw [k2_5]; rfl))
  have n_k2_6 : w3.cell? ⟨w.heap.size + 1 + 1, 6, none⟩ = some (.int .i64 0) := by rw [hw3]; repeat (first | (with_reducible exact k2_6) | (with_reducible refine cdn ?_ _) | (with_reducible refine cdr ?_) | (with_reducible refine css ?_) | (with_reducible refine cso (by simp <;> omega) ?_) | (with_reducible refine iss ?_) | (with_reducible refine idn ?_ _) | (rw [k2_6]; done) | (rw [k2_6]; rfl))
  have n_k2_7 : w3.cell? ⟨w.heap.size + 1 + 1, 7, none⟩ = some (.int .i64 0) := by rw [hw3]; repeat (first | (with_reducible exact k2_7) | (with_reducible refine cdn ?_ _) | (with_reducible refine cdr ?_) | (with_reducible refine css ?_) | (with_reducible refine cso (by simp <;> omega) ?_) | (with_reducible refine iss ?_) | (with_reducible refine idn ?_ _) | (rw [k2_7]; done) | (rw [k2_7]; rfl))
  have n_k3_0 : w3.cell? ⟨w.heap.size + 1 + 1 + 1, 0, none⟩ = some (.bool false) := by rw [hw3]; repeat (first | (with_reducible exact k3_0) | (with_reducible refine cdn ?_ _) | (with_reducible refine cdr ?_) | (with_reducible refine css ?_) | (with_reducible refine cso (by simp <;> omega) ?_) | (with_reducible refine iss ?_) | (with_reducible refine idn ?_ _) | (rw [k3_0]; done) | (rw [k3_0]; rfl))
  have n_k4_0 : w3.cell? ⟨w.heap.size + 1 + 1 + 1 + 1, 0, none⟩ = some (.int .i64 mq) := by rw [hw3]; repeat (first | (with_reducible exact k4_0) | (with_reducible refine cdn ?_ _) | (with_reducible refine cdr ?_) | (with_reducible refine css ?_) | (with_reducible refine cso (by simp <;> omega) ?_) | (with_reducible refine iss ?_) | (with_reducible refine idn ?_ _) | (rw [k4_0]; done) | (rw [k4_0]; rfl))
  have n_k4_1 : w3.cell? ⟨w.heap.size + 1 + 1 + 1 + 1, 1, none⟩ = some (.int .i64 mp) := by rw [hw3]; repeat (first | (with_reducible exact k4_1) | (with_reducible refine cdn ?_ _) | (with_reducible refine cdr ?_) | (with_reducible refine css ?_) | (with_reducible refine cso (by simp <;> omega) ?_) | (with_reducible refine iss ?_) | (with_reducible refine idn ?_ _) | (rw [k4_1]; done) | (rw [k4_1]; rfl))
  have n_k4_2 : w3.cell? ⟨w.heap.size + 1 + 1 + 1 + 1, 2, none⟩ = some (.int .i64 0) := by rw [hw3]; repeat (first | (with_reducible exact k4_2) | (with_reducible refine cdn ?_ _) | (with_reducible refine cdr ?_) | (with_reducible refine css ?_) | (with_reducible refine cso (by simp <;> omega) ?_) | (with_reducible refine iss ?_) | (with_reducible refine idn ?_ _) | (rw [k4_2]; done) | (rw [k4_2]; rfl))
  have n_k4_3 : w3.cell? ⟨w.heap.size + 1 + 1 + 1 + 1, 3, none⟩ = some (.int .i64 0) := by rw [hw3]; repeat (first | (with_reducible exact k4_3) | (with_reducible refine cdn ?_ _) | (with_reducible refine cdr ?_) | (with_reducible refine css ?_) | (with_reducible refine cso (by simp <;> omega) ?_) | (with_reducible refine iss ?_) | (with_reducible refine idn ?_ _) | (rw [k4_3]; done) | (rw [k4_3]; rfl))
  have n_k4_4 : w3.cell? ⟨w.heap.size + 1 + 1 + 1 + 1, 4, none⟩ = some (.bool false) := by rw [hw3]; repeat (first | (with_reducible exact k4_4) | (with_reducible refine cdn ?_ _) | (with_reducible refine cdr ?_) | (with_reducible refine css ?_) | (with_reducible refine cso (by simp <;> omega) ?_) | (with_reducible refine iss ?_) | (with_reducible refine idn ?_ _) | (rw [k4_4]; done) | (rw [k4_4]; rfl))
  have n_k4_5 : w3.cell? ⟨w.heap.size + 1 + 1 + 1 + 1, 5, none⟩ = some (.int .i64 lf) := by rw [hw3]; repeat (first | (with_reducible exact k4_5) | (with_reducible refine cdn ?_ _) | (with_reducible refine cdr ?_) | (with_reducible refine css ?_) | (with_reducible refine cso (by simp <;> omega) ?_) | (with_reducible refine iss ?_) | (with_reducible refine idn ?_ _) | (rw [k4_5]; done) | (rw [k4_5]; rfl))
  have n_k4_6 : w3.cell? ⟨w.heap.size + 1 + 1 + 1 + 1, 6, none⟩ = some (.int .i64 st) := by rw [hw3]; repeat (first | (with_reducible exact k4_6) | (with_reducible refine cdn ?_ _) | (with_reducible refine cdr ?_) | (with_reducible refine css ?_) | (with_reducible refine cso (by simp <;> omega) ?_) | (with_reducible refine iss ?_) | (with_reducible refine idn ?_ _) | (rw [k4_6]; done) | (rw [k4_6]; rfl))
  have n_k4_7 : w3.cell? ⟨w.heap.size + 1 + 1 + 1 + 1, 7, none⟩ = some (.int .i64 en) := by rw [hw3]; repeat (first | (with_reducible exact k4_7) | (with_reducible refine cdn ?_ _) | (with_reducible refine cdr ?_) | (with_reducible refine css ?_) | (with_reducible refine cso (by simp <;> omega) ?_) | (with_reducible refine iss ?_) | (with_reducible refine idn ?_ _) | (rw [k4_7]; done) | (rw [k4_7]; rfl))
  have n_k5_0 : w3.cell? ⟨w.heap.size + 1 + 1 + 1 + 1 + 1, 0, none⟩ = some (.int .i64 0) := by rw [hw3]; repeat (first | (with_reducible exact k5_0) | (with_reducible refine cdn ?_ _) | (with_reducible refine cdr ?_) | (with_reducible refine css ?_) | (with_reducible refine cso (by simp <;> omega) ?_) | (with_reducible refine iss ?_) | (with_reducible refine idn ?_ _) | (rw [k5_0]; done) | (rw [k5_0]; rfl))
  have n_k5_1 : w3.cell? ⟨w.heap.size + 1 + 1 + 1 + 1 + 1, 1, none⟩ = some (.int .i64 0) := by rw [hw3]; repeat (first | (with_reducible exact k5_1) | (with_reducible refine cdn ?_ _) | (with_reducible refine cdr ?_) | (with_reducible refine css ?_) | (with_reducible refine cso (by simp <;> omega) ?_) | (with_reducible refine iss ?_) | (with_reducible refine idn ?_ _) | (rw [k5_1]; done) | (rw [k5_1]; rfl))
  have n_k5_2 : w3.cell? ⟨w.heap.size + 1 + 1 + 1 + 1 + 1, 2, none⟩ = some (.int .i64 0) := by rw [hw3]; repeat (first | (with_reducible exact k5_2) | (with_reducible refine cdn ?_ _) | (with_reducible refine cdr ?_) | (with_reducible refine css ?_) | (with_reducible refine cso (by simp <;> omega) ?_) | (with_reducible refine iss ?_) | (with_reducible refine idn ?_ _) | (rw [k5_2]; done) | (rw [k5_2]; rfl))
  have n_k5_3 : w3.cell? ⟨w.heap.size + 1 + 1 + 1 + 1 + 1, 3, none⟩ = some (.int .i64 0) := by rw [hw3]; repeat (first | (with_reducible exact k5_3) | (with_reducible refine cdn ?_ _) | (with_reducible refine cdr ?_) | (with_reducible refine css ?_) | (with_reducible refine cso (by simp <;> omega) ?_) | (with_reducible refine iss ?_) | (with_reducible refine idn ?_ _) | (rw [k5_3]; done) | (rw [k5_3]; rfl))
  have n_k5_4 : w3.cell? ⟨w.heap.size + 1 + 1 + 1 + 1 + 1, 4, none⟩ = some (.bool false) := by rw [hw3]; repeat (first | (with_reducible exact k5_4) | (with_reducible refine cdn ?_ _) | (with_reducible refine cdr ?_) | (with_reducible refine css ?_) | (with_reducible refine cso (by simp <;> omega) ?_) | (with_reducible refine iss ?_) | (with_reducible refine idn ?_ _) | (rw [k5_4]; done) | (rw [k5_4]; rfl))
  have n_k5_5 : w3.cell? ⟨w.heap.size + 1 + 1 + 1 + 1 + 1, 5, none⟩ = some (.int .i64 0) := by rw [hw3]; repeat (first | (with_reducible exact k5_5) | (with_reducible refine cdn ?_ _) | (with_reducible refine cdr ?_) | (with_reducible refine css ?_) | (with_reducible refine cso (by simp <;> omega) ?_) | (with_reducible refine iss ?_) | (with_reducible refine idn ?_ _) | (rw [k5_5]; done) | (rw [k5_5]; rfl))
  have n_k5_6 : w3.cell? ⟨w.heap.size + 1 + 1 + 1 + 1 + 1, 6, none⟩ = some (.int .i64 0) := by rw [hw3]; repeat (first | (with_reducible exact k5_6) | (with_reducible refine cdn ?_ _) | (with_reducible refine cdr ?_) | (with_reducible refine css ?_) | (with_reducible refine cso (by simp <;> omega) ?_) | (with_reducible refine iss ?_) | (with_reducible refine idn ?_ _) | (rw [k5_6]; done) | (rw [k5_6]; rfl))
  have n_k5_7 : w3.cell? ⟨w.heap.size + 1 + 1 + 1 + 1 + 1, 7, none⟩ = some (.int .i64 0) := by rw [hw3]; repeat (first | (with_reducible exact k5_7) | (with_reducible refine cdn ?_ _) | (with_reducible refine cdr ?_) | (with_reducible refine css ?_) | (with_reducible refine cso (by simp <;> omega) ?_) | (with_reducible refine iss ?_) | (with_reducible refine idn ?_ _) | (rw [k5_7]; done) | (rw [k5_7]; rfl))
  have n_f2_0 : w3.frozen? ⟨w.heap.size + 1 + 1, 0, none⟩ = false := by rw [hw3]; simp [f2_0]
  have n_f2_1 : w3.frozen? ⟨w.heap.size + 1 + 1, 1, none⟩ = false := by rw [hw3]; simp [f2_1]
  have n_f2_2 : w3.frozen? ⟨w.heap.size + 1 + 1, 2, none⟩ = false := by rw [hw3]; simp [f2_2]
  have n_f2_3 : w3.frozen? ⟨w.heap.size + 1 + 1, 3, none⟩ = false := by rw [hw3]; simp [f2_3]
  have n_f2_4 : w3.frozen? ⟨w.heap.size + 1 + 1, 4, none⟩ = false := by rw [hw3]; simp [f2_4]
  have n_f2_5 : w3.frozen? ⟨w.heap.size + 1 + 1, 5, none⟩ = false := by rw [hw3]; simp [f2_5]
  have n_f2_6 : w3.frozen? ⟨w.heap.size + 1 + 1, 6, none⟩ = false := by rw [hw3]; simp [f2_6]
  have n_f2_7 : w3.frozen? ⟨w.heap.size + 1 + 1, 7, none⟩ = false := by rw [hw3]; simp [f2_7]
  have n_f3_0 : w3.frozen? ⟨w.heap.size + 1 + 1 + 1, 0, none⟩ = false := by rw [hw3]; simp [f3_0]
  have n_f4_0 : w3.frozen? ⟨w.heap.size + 1 + 1 + 1 + 1, 0, none⟩ = false := by rw [hw3]; simp [f4_0]
  have n_f4_1 : w3.frozen? ⟨w.heap.size + 1 + 1 + 1 + 1, 1, none⟩ = false := by rw [hw3]; simp [f4_1]
  have n_f4_2 : w3.frozen? ⟨w.heap.size + 1 + 1 + 1 + 1, 2, none⟩ = false := by rw [hw3]; simp [f4_2]
  have n_f4_3 : w3.frozen? ⟨w.heap.size + 1 + 1 + 1 + 1, 3, none⟩ = false := by rw [hw3]; simp [f4_3]
  have n_f4_4 : w3.frozen? ⟨w.heap.size + 1 + 1 + 1 + 1, 4, none⟩ = false := by rw [hw3]; simp [f4_4]
  have n_f4_5 : w3.frozen? ⟨w.heap.size + 1 + 1 + 1 + 1, 5, none⟩ = false := by rw [hw3]; simp [f4_5]
  have n_f4_6 : w3.frozen? ⟨w.heap.size + 1 + 1 + 1 + 1, 6, none⟩ = false := by rw [hw3]; simp [f4_6]
  have n_f4_7 : w3.frozen? ⟨w.heap.size + 1 + 1 + 1 + 1, 7, none⟩ = false := by rw [hw3]; simp [f4_7]
  have n_f5_0 : w3.frozen? ⟨w.heap.size + 1 + 1 + 1 + 1 + 1, 0, none⟩ = false := by rw [hw3]; simp [f5_0]
  have n_f5_1 : w3.frozen? ⟨w.heap.size + 1 + 1 + 1 + 1 + 1, 1, none⟩ = false := by rw [hw3]; simp [f5_1]
  have n_f5_2 : w3.frozen? ⟨w.heap.size + 1 + 1 + 1 + 1 + 1, 2, none⟩ = false := by rw [hw3]; simp [f5_2]
  have n_f5_3 : w3.frozen? ⟨w.heap.size + 1 + 1 + 1 + 1 + 1, 3, none⟩ = false := by rw [hw3]; simp [f5_3]
  have n_f5_4 : w3.frozen? ⟨w.heap.size + 1 + 1 + 1 + 1 + 1, 4, none⟩ = false := by rw [hw3]; simp [f5_4]
  have n_f5_5 : w3.frozen? ⟨w.heap.size + 1 + 1 + 1 + 1 + 1, 5, none⟩ = false := by rw [hw3]; simp [f5_5]
  have n_f5_6 : w3.frozen? ⟨w.heap.size + 1 + 1 + 1 + 1 + 1, 6, none⟩ = false := by rw [hw3]; simp [f5_6]
  have n_f5_7 : w3.frozen? ⟨w.heap.size + 1 + 1 + 1 + 1 + 1, 7, none⟩ = false := by rw [hw3]; simp [f5_7]
  replace z_ : w.heap.size + 1 + 1 + 1 + 1 + 1 < w3.heap.size := by rw [hw3]; simpa using z_
  have hs_3 : w2.heap.size = w3.heap.size := by rw [hw3]; simp
  replace HB : Below w.heap.size w w3 := by
    rw [hw3]
    repeat (first | (with_reducible exact HB) | (with_reducible refine below_drewN' ?_ _) | (with_reducible refine Below.drew ?_) | (with_reducible refine Below.setCell ?_ (by simp <;> omega) _))
  clear hw3 k0_0 k0_1 k0_2 k0_3 k0_4 k0_5 k0_6 k0_7 k1_0 k2_0 k2_1 k2_2 k2_3 k2_4 k2_5 k2_6 k2_7 k3_0 k4_0 k4_1 k4_2 k4_3 k4_4 k4_5 k4_6 k4_7 k5_0 k5_1 k5_2 k5_3 k5_4 k5_5 k5_6 k5_7 f2_0 f2_1 f2_2 f2_3 f2_4 f2_5 f2_6 f2_7 f3_0 f4_0 f4_1 f4_2 f4_3 f4_4 f4_5 f4_6 f4_7 f5_0 f5_1 f5_2 f5_3 f5_4 f5_5 f5_6 f5_7
  have k0_0 := n_k0_0; clear n_k0_0
  have k0_1 := n_k0_1; clear n_k0_1
  have k0_2 := n_k0_2; clear n_k0_2
  have k0_3 := n_k0_3; clear n_k0_3
  have k0_4 := n_k0_4; clear n_k0_4
  have k0_5 := n_k0_5; clear n_k0_5
  have k0_6 := n_k0_6; clear n_k0_6
  have k0_7 := n_k0_7; clear n_k0_7
  have k1_0 := n_k1_0; clear n_k1_0
  have k2_0 := n_k2_0; clear n_k2_0
  have k2_1 := n_k2_1; clear n_k2_1
  have k2_2 := n_k2_2; clear n_k2_2
  have k2_3 := n_k2_3; clear n_k2_3
  have k2_4 := n_k2_4; clear n_k2_4
  have k2_5 := n_k2_5; clear n_k2_5
  have k2_6 := n_k2_6; clear n_k2_6
  have k2_7 := n_k2_7; clear n_k2_7
  have k3_0 := n_k3_0; clear n_k3_0
  have k4_0 := n_k4_0; clear n_k4_0
  have k4_1 := n_k4_1; clear n_k4_1
  have k4_2 := n_k4_2; clear n_k4_2
  have k4_3 := n_k4_3; clear n_k4_3
  have k4_4 := n_k4_4; clear n_k4_4
  have k4_5 := n_k4_5; clear n_k4_5
  have k4_6 := n_k4_6; clear n_k4_6
  have k4_7 := n_k4_7; clear n_k4_7
  have k5_0 := n_k5_0; clear n_k5_0
  have k5_1 := n_k5_1; clear n_k5_1
  have k5_2 := n_k5_2; clear n_k5_2
  have k5_3 := n_k5_3; clear n_k5_3
  have k5_4 := n_k5_4; clear n_k5_4
  have k5_5 := n_k5_5; clear n_k5_5
  have k5_6 := n_k5_6; clear n_k5_6
  have k5_7 := n_k5_7; clear n_k5_7
  have f2_0 := n_f2_0; clear n_f2_0
  have f2_1 := n_f2_1; clear n_f2_1
  have f2_2 := n_f2_2; clear n_f2_2
  have f2_3 := n_f2_3; clear n_f2_3
  have f2_4 := n_f2_4; clear n_f2_4
  have f2_5 := n_f2_5; clear n_f2_5
  have f2_6 := n_f2_6; clear n_f2_6
  have f2_7 := n_f2_7; clear n_f2_7
  have f3_0 := n_f3_0; clear n_f3_0
  have f4_0 := n_f4_0; clear n_f4_0
  have f4_1 := n_f4_1; clear n_f4_1
  have f4_2 := n_f4_2; clear n_f4_2
  have f4_3 := n_f4_3; clear n_f4_3
  have f4_4 := n_f4_4; clear n_f4_4
  have f4_5 := n_f4_5; clear n_f4_5
  have f4_6 := n_f4_6; clear n_f4_6
  have f4_7 := n_f4_7; clear n_f4_7
  have f5_0 := n_f5_0; clear n_f5_0
  have f5_1 := n_f5_1; clear n_f5_1
  have f5_2 := n_f5_2; clear n_f5_2
  have f5_3 := n_f5_3; clear n_f5_3
  have f5_4 := n_f5_4; clear n_f5_4
  have f5_5 := n_f5_5; clear n_f5_5
  have f5_6 := n_f5_6; clear n_f5_6
  have f5_7 := n_f5_7; clear n_f5_7
  clear hs_3
  go_wp2
  refine bodyPost_ret (v := .tuple #[.agg #[.int .i64 mq, .int .i64 mp, .int .i64 0, .int .i64 0, .bool false, .int .i64 mq, .int .i64 en, .int .i64 (en + mp)], .nilIface]) (by simp [results, Try.results21, go_sem, k5_0, k5_1, k5_2, k5_3, k5_4, k5_5, k5_6, k5_7]) rfl ?_
  go_wp2_with fail
  obtain ⟨w4, hw4⟩ : ∃ x, x = ((((((((((((((((w3.setCell ⟨w.heap.size + 1 + 1 + 1 + 1, 0, none⟩ (.int .i64 mq)).setCell ⟨w.heap.size + 1 + 1 + 1 + 1, 1, none⟩ (.int .i64 mp)).setCell ⟨w.heap.size + 1 + 1 + 1 + 1, 2, none⟩ (.int .i64 0)).setCell ⟨w.heap.size + 1 + 1 + 1 + 1, 3, none⟩ (.int .i64 0)).setCell ⟨w.heap.size + 1 + 1 + 1 + 1, 4, none⟩ (.bool false)).setCell ⟨w.heap.size + 1 + 1 + 1 + 1, 5, none⟩ (.int .i64 mq)).setCell ⟨w.heap.size + 1 + 1 + 1 + 1, 6, none⟩ (.int .i64 en)).setCell ⟨w.heap.size + 1 + 1 + 1 + 1, 7, none⟩ (.int .i64 (en + mp))).setCell ⟨w.heap.size + 1 + 1 + 1 + 1 + 1, 0, none⟩ (.int .i64 mq)).setCell ⟨w.heap.size + 1 + 1 + 1 + 1 + 1, 1, none⟩ (.int .i64 mp)).setCell ⟨w.heap.size + 1 + 1 + 1 + 1 + 1, 2, none⟩ (.int .i64 0)).setCell ⟨w.heap.size + 1 + 1 + 1 + 1 + 1, 3, none⟩ (.int .i64 0)).setCell ⟨w.heap.size + 1 + 1 + 1 + 1 + 1, 4, none⟩ (.bool false)).setCell ⟨w.heap.size + 1 + 1 + 1 + 1 + 1, 5, none⟩ (.int .i64 mq)).setCell ⟨w.heap.size + 1 + 1 + 1 + 1 + 1, 6, none⟩ (.int .i64 en)).setCell ⟨w.heap.size + 1 + 1 + 1 + 1 + 1, 7, none⟩ (.int .i64 (en + mp))) := ⟨_, rfl⟩
  rw [← hw4]
  have n_k0_0 : w4.cell? ⟨w.heap.size, 0, none⟩ = some (.int .i64 mq) := by rw [hw4]; repeat (first | (with_reducible exact k0_0) | (with_reducible refine cdn ?_ _) | (with_reducible refine cdr ?_) | (with_reducible refine css ?_) | (with_reducible refine cso (by simp <;> omega) ?_) | (with_reducible refine iss ?_) | (with_reducible refine idn ?_ _) | (rw [k0_0]; done) | (rw [k0_0]; rfl))
  have n_k0_1 : w4.cell? ⟨w.heap.size, 1, none⟩ = some (.int .i64 mp) := by rw [hw4]; repeat (first | (with_reducible exact k0_1) | (with_reducible refine cdn ?_ _) | (with_reducible refine cdr ?_) | (with_reducible refine css ?_) | (with_reducible refine cso (by simp <;> omega) ?_) | (with_reducible refine iss ?_) | (with_reducible refine idn ?_ _) | (rw [k0_1]; done) | (rw [k0_1]; rfl))
  have n_k0_2 : w4.cell? ⟨w.heap.size, 2, none⟩ = some (.int .i64 0) := by rw [hw4]; repeat (first | (with_reducible exact k0_2) | (with_reducible refine cdn ?_ _) | (with_reducible refine cdr ?_) | (with_reducible refine css ?_) | (with_reducible refine cso (by simp <;> omega) ?_) | (with_reducible refine iss ?_) | (with_reducible refine idn ?_ _) | (rw [k0_2]; done) | (rw [k0_2]; rfl))
  have n_k0_3 : w4.cell? ⟨w.heap.size, 3, none⟩ = some (.int .i64 0) := by rw [hw4]; repeat (first | (with_reducible exact k0_3) | (with_reducible refine cdn ?_ _) | (with_reducible refine cdr ?_) | (with_reducible refine css ?_) | (with_reducible refine cso (by simp <;> omega) ?_) | (with_reducible refine iss ?_) | (with_reducible refine idn ?_ _) | (rw [k0_3]; done) | (rw [k0_3]; rfl))
  have n_k0_4 : w4.cell? ⟨w.heap.size, 4, none⟩ = some (.bool false) := by rw [hw4]; repeat (first | (with_reducible exact k0_4) | (with_reducible refine cdn ?_ _) | (with_reducible refine cdr ?_) | (with_reducible refine css ?_) | (with_reducible refine cso (by simp <;> omega) ?_) | (with_reducible refine iss ?_) | (with_reducible refine idn ?_ _) | (rw [k0_4]; done) | (rw [k0_4]; rfl))
  have n_k0_5 : w4.cell? ⟨w.heap.size, 5, none⟩ = some (.int .i64 lf) := by rw [hw4]; repeat (first | (with_reducible exact k0_5) | (with_reducible refine cdn ?_ _) | (with_reducible refine cdr ?_) | (with_reducible refine css ?_) | (with_reducible refine cso (by simp <;> omega) ?_) | (with_reducible refine iss ?_) | (with_reducible refine idn ?_ _) | (rw [k0_5]; done) | (rw [k0_5]; rfl))
  have n_k0_6 : w4.cell? ⟨w.heap.size, 6, none⟩ = some (.int .i64 st) := by rw [hw4]; repeat (first | (with_reducible exact k0_6) | (with_reducible refine cdn ?_ _) | (with_reducible refine cdr ?_) | (with_reducible refine css ?_) | (with_reducible refine cso (by simp <;> omega) ?_) | (with_reducible refine iss ?_) | (with_reducible refine idn ?_ _) | (rw [k0_6]; done) | (rw [k0_6]; rfl))
  have n_k0_7 : w4.cell? ⟨w.heap.size, 7, none⟩ = some (.int .i64 en) := by rw [hw4]; repeat (first | (with_reducible exact k0_7) | (with_reducible refine cdn ?_ _) | (with_reducible refine cdr ?_) | (with_reducible refine css ?_) | (with_reducible refine cso (by simp <;> omega) ?_) | (with_reducible refine iss ?_) | (with_reducible refine idn ?_ _) | (rw [k0_7]; done) | (rw [k0_7]; rfl))
  have n_k1_0 : w4.cell? ⟨w.heap.size + 1, 0, none⟩ = some (.int .i64 en) := by rw [hw4]; repeat (first | (with_reducible exact k1_0) | (with_reducible refine cdn ?_ _) | (with_reducible refine cdr ?_) | (with_reducible refine css ?_) | (with_reducible refine cso (by simp <;> omega) ?_) | (with_reducible refine iss ?_) | (with_reducible refine idn ?_ _) | (rw [k1_0]; done) | (rw [k1_0]; rfl))
  have n_k2_0 : w4.cell? ⟨w.heap.size + 1 + 1, 0, none⟩ = some (.int .i64 0) := by rw [hw4]; repeat (first | (with_reducible exact k2_0) | (with_reducible refine cdn ?_ _) | (with_reducible refine cdr ?_) | (with_reducible refine css ?_) | (with_reducible refine cso (by simp <;> omega) ?_) | (with_reducible refine iss ?_) | (with_reducible refine idn ?_ _) | (rw [k2_0]; done) | (rw [k2_0]; rfl))
  have n_k2_1 : w4.cell? ⟨w.heap.size + 1 + 1, 1, none⟩ = some (.int .i64 0) := by rw [hw4]; repeat (first | (with_reducible exact k2_1) | (with_reducible refine cdn ?_ _) | (with_reducible refine cdr ?_) | (with_reducible refine css ?_) | (with_reducible refine cso (by simp <;> omega) ?_) | (with_reducible refine iss ?_) | (with_reducible refine idn ?_ _) | (rw [k2_1]; done) | (rw [k2_1]; rfl))
  have n_k2_2 : w4.cell? ⟨w.heap.size + 1 + 1, 2, none⟩ = some (.int .i64 0) := by rw [hw4]; repeat (first | (with_reducible exact k2_2) | (with_reducible refine cdn ?_ _) | (with_reducible refine cdr ?_) | (with_reducible refine css ?_) | (with_reducible refine cso (by simp <;> omega) ?_) | (with_reducible refine iss ?_) | (with_reducible refine idn ?_ _) | (rw [k2_2]; done) | (rw [k2_2]; rfl))
  have n_k2_3 : w4.cell? ⟨w.heap.size + 1 + 1, 3, none⟩ = some (.int .i64 0) := by rw [hw4]; repeat (first | (with_reducible exact k2_3) | (with_reducible refine cdn ?_ _) | (with_reducible refine cdr ?_) | (with_reducible refine css ?_) | (with_reducible refine cso (by simp <;> omega) ?_) | (with_reducible refine iss ?_) | (with_reducible refine idn ?_ _) | (rw [k2_3]; done) | (rw [k2_3]; rfl))
  have n_k2_4 : w4.cell? ⟨w.heap.size + 1 + 1, 4, none⟩ = some (.bool false) := by rw [hw4]; repeat (first | (with_reducible exact k2_4) | (with_reducible refine cdn ?_ _) | (with_reducible refine cdr ?_) | (with_reducible refine css ?_) | (with_reducible refine cso (by simp <;> omega) ?_) | (with_reducible refine iss ?_) | (with_reducible refine idn ?_ _) | (rw [k2_4]; done) | (rw [k2_4]; rfl))
  have n_k2_5 : w4.cell? ⟨w.heap.size + 1 + 1, 5, none⟩ = some (.int .i64 0) := by rw [hw4]; repeat (first | (with_reducible exact k2_5) | (with_reducible refine cdn ?_ _) | (with_reducible refine cdr ?_) | (with_reducible refine css ?_) | (with_reducible refine cso (by simp <;> omega) ?_) | (with_reducible refine iss ?_) | (with_reducible refine idn ?_ _) | (rw [k2_5]; done) | (rw [k2_5]; rfl))
  have n_k2_6 : w4.cell? ⟨w.heap.size + 1 + 1, 6, none⟩ = some (.int .i64 0) := by rw [hw4]; repeat (first | (with_reducible exact k2_6) | (with_reducible refine cdn ?_ _) | (with_reducible refine cdr ?_) | (with_reducible refine css ?_) | (with_reducible refine cso (by simp <;> omega) ?_) | (with_reducible refine iss ?_) | (with_reducible refine idn ?_ _) | (rw [k2_6]; done) | (rw [k2_6]; rfl))
  have n_k2_7 : w4.cell? ⟨w.heap.size + 1 + 1, 7, none⟩ = some (.int .i64 0) := by rw [hw4]; repeat (first | (with_reducible exact k2_7) | (with_reducible refine cdn ?_ _) | (with_reducible refine cdr ?_) | (with_reducible refine css ?_) | (with_reducible refine cso (by simp <;> omega) ?_) | (with_reducible refine iss ?_) | (with_reducible refine idn ?_ _) | (rw [k2_7]; done) | (rw [k2_7]; rfl))
  have n_k3_0 : w4.cell? ⟨w.heap.size + 1 + 1 + 1, 0, none⟩ = some (.bool false) := by rw [hw4]; repeat (first | (with_reducible exact k3_0) | (with_reducible refine cdn ?_ _) | (with_reducible refine cdr ?_) | (with_reducible refine css ?_) | (with_reducible refine cso (by simp <;> omega) ?_) | (with_reducible refine iss ?_) | (with_reducible refine idn ?_ _) | (rw [k3_0]; done) | (rw [k3_0]; rfl))
  have n_k4_0 : w4.cell? ⟨w.heap.size + 1 + 1 + 1 + 1, 0, none⟩ = some (.int .i64 mq) := by rw [hw4]; repeat (first | (with_reducible exact k4_0) | (with_reducible refine cdn ?_ _) | (with_reducible refine cdr ?_) | (with_reducible refine css ?_) | (with_reducible refine cso (by simp <;> omega) ?_) | (with_reducible refine iss ?_) | (with_reducible refine idn ?_ _) | (rw [k4_0]; done) | (rw [k4_0]; rfl))
  have n_k4_1 : w4.cell? ⟨w.heap.size + 1 + 1 + 1 + 1, 1, none⟩ = some (.int .i64 mp) := by rw [hw4]; repeat (first | (with_reducible exact k4_1) | (with_reducible refine cdn ?_ _) | (with_reducible refine cdr ?_) | (with_reducible refine css ?_) | (with_reducible refine cso (by simp <;> omega) ?_) | (with_reducible refine iss ?_) | (with_reducible refine idn ?_ _) | (rw [k4_1]; done) | (rw [k4_1]; rfl))
  have n_k4_2 : w4.cell? ⟨w.heap.size + 1 + 1 + 1 + 1, 2, none⟩ = some (.int .i64 0) := by rw [hw4]; repeat (first | (with_reducible exact k4_2) | (with_reducible refine cdn ?_ _) | (with_reducible refine cdr ?_) | (with_reducible refine css ?_) | (with_reducible refine cso (by simp <;> omega) ?_) | (with_reducible refine iss ?_) | (with_reducible refine idn ?_ _) | (rw [k4_2]; done) | (rw [k4_2]; rfl))
  have n_k4_3 : w4.cell? ⟨w.heap.size + 1 + 1 + 1 + 1, 3, none⟩ = some (.int .i64 0) := by rw [hw4]; repeat (first | (with_reducible exact k4_3) | (with_reducible refine cdn ?_ _) | (with_reducible refine cdr ?_) | (with_reducible refine css ?_) | (with_reducible refine cso (by simp <;> omega) ?_) | (with_reducible refine iss ?_) | (with_reducible refine idn ?_ _) | (rw [k4_3]; done) | (rw [k4_3]; rfl))
  have n_k4_4 : w4.cell? ⟨w.heap.size + 1 + 1 + 1 + 1, 4, none⟩ = some (.bool false) := by rw [hw4]; repeat (first | (with_reducible exact k4_4) | (with_reducible refine cdn ?_ _) | (with_reducible refine cdr ?_) | (with_reducible refine css ?_) | (with_reducible refine cso (by simp <;> omega) ?_) | (with_reducible refine iss ?_) | (with_reducible refine idn ?_ _) | (rw [k4_4]; done) | (rw [k4_4]; rfl))
  have n_k4_5 : w4.cell? ⟨w.heap.size + 1 + 1 + 1 + 1, 5, none⟩ = some (.int .i64 mq) := by rw [hw4]; repeat (first | (with_reducible exact k4_5) | (with_reducible refine cdn ?_ _) | (with_reducible refine cdr ?_) | (with_reducible refine css ?_) | (with_reducible refine cso (by simp <;> omega) ?_) | (with_reducible refine iss ?_) | (with_reducible refine idn ?_ _) | (rw [k4_5]; done) | (rw [k4_5]; rfl))
  have n_k4_6 : w4.cell? ⟨w.heap.size + 1 + 1 + 1 + 1, 6, none⟩ = some (.int .i64 en) := by rw [hw4]; repeat (first | (with_reducible exact k4_6) | (with_reducible refine cdn ?_ _) | (with_reducible refine cdr ?_) | (with_reducible refine css ?_) | (with_reducible refine cso (by simp <;> omega) ?_) | (with_reducible refine iss ?_) | (with_reducible refine idn ?_ _) | (rw [k4_6]; done) | (rw [k4_6]; rfl))
  have n_k4_7 : w4.cell? ⟨w.heap.size + 1 + 1 + 1 + 1, 7, none⟩ = some (.int .i64 (en + mp)) := by rw [hw4]; repeat (first | (with_reducible exact k4_7) | (with_reducible refine cdn ?_ _) | (with_reducible refine cdr ?_) | (with_reducible refine css ?_) | (with_reducible refine cso (by simp <;> omega) ?_) | (with_reducible refine iss ?_) | (with_reducible refine idn ?_ _) | (rw [k4_7]; done) | (rw [k4_7]; rfl))
  have n_k5_0 : w4.cell? ⟨w.heap.size + 1 + 1 + 1 + 1 + 1, 0, none⟩ = some (.int .i64 mq) := by rw [hw4]; repeat (first | (with_reducible exact k5_0) | (with_reducible refine cdn ?_ _) | (with_reducible refine cdr ?_) | (with_reducible refine css ?_) | (with_reducible refine cso (by simp <;> omega) ?_) | (with_reducible refine iss ?_) | (with_reducible refine idn ?_ _) | (rw [k5_0]; done) | (rw [k5_0]; rfl))
  have n_k5_1 : w4.cell? ⟨w.heap.size + 1 + 1 + 1 + 1 + 1, 1, none⟩ = some (.int .i64 mp) := by rw [hw4]; repeat (first | (with_reducible exact k5_1) | (with_reducible refine cdn ?_ _) | (with_reducible refine cdr ?_) | (with_reducible refine css ?_) | (with_reducible refine cso (by simp <;> omega) ?_) | (with_reducible refine iss ?_) | (with_reducible refine idn ?_ _) | (rw [k5_1]; done) | (rw [k5_1]; rfl))
  have n_k5_2 : w4.cell? ⟨w.heap.size + 1 + 1 + 1 + 1 + 1, 2, none⟩ = some (.int .i64 0) := by rw [hw4]; repeat (first | (with_reducible exact k5_2) | (with_reducible refine cdn ?_ _) | (with_reducible refine cdr ?_) | (with_reducible refine css ?_) | (with_reducible refine cso (by simp <;> omega) ?_) | (with_reducible refine iss ?_) | (with_reducible refine idn ?_ _) | (rw [k5_2]; done) | (rw [k5_2]; rfl))
  have n_k5_3 : w4.cell? ⟨w.heap.size + 1 + 1 + 1 + 1 + 1, 3, none⟩ = some (.int .i64 0) := by rw [hw4]; repeat (first | (with_reducible exact k5_3) | (with_reducible refine cdn ?_ _) | (with_reducible refine cdr ?_) | (with_reducible refine css ?_) | (with_reducible refine cso (by simp <;> omega) ?_) | (with_reducible refine iss ?_) | (with_reducible refine idn ?_ _) | (rw [k5_3]; done) | (rw [k5_3]; rfl))
  have n_k5_4 : w4.cell? ⟨w.heap.size + 1 + 1 + 1 + 1 + 1, 4, none⟩ = some (.bool false) := by rw [hw4]; repeat (first | (with_reducible exact k5_4) | (with_reducible refine cdn ?_ _) | (with_reducible refine cdr ?_) | (with_reducible refine css ?_) | (with_reducible refine cso (by simp <;> omega) ?_) | (with_reducible refine iss ?_) | (with_reducible refine idn ?_ _) | (rw [k5_4]; done) | (rw [k5_4]; rfl))
  have n_k5_5 : w4.cell? ⟨w.heap.size + 1 + 1 + 1 + 1 + 1, 5, none⟩ = some (.int .i64 mq) := by rw [hw4]; repeat (first | (with_reducible exact k5_5) | (with_reducible refine cdn ?_ _) | (with_reducible refine cdr ?_) | (with_reducible refine css ?_) | (with_reducible refine cso (by simp <;> omega) ?_) | (with_reducible refine iss ?_) | (with_reducible refine idn ?_ _) | (rw [k5_5]; done) | (rw [k5_5]; rfl))
  have n_k5_6 : w4.cell? ⟨w.heap.size + 1 + 1 + 1 + 1 + 1, 6, none⟩ = some (.int .i64 en) := by rw [hw4]; repeat (first | (with_reducible exact k5_6) | (with_reducible refine cdn ?_ _) | (with_reducible refine cdr ?_) | (with_reducible refine css ?_) | (with_reducible refine cso (by simp <;> omega) ?_) | (with_reducible refine iss ?_) | (with_reducible refine idn ?_ _) | (rw [k5_6]; done) | (rw [k5_6]; rfl))
  have n_k5_7 : w4.cell? ⟨w.heap.size + 1 + 1 + 1 + 1 + 1, 7, none⟩ = some (.int .i64 (en + mp)) := by rw [hw4]; repeat (first | (with_reducible exact k5_7) | (with_reducible refine cdn ?_ _) | (with_reducible refine cdr ?_) | (with_reducible refine css ?_) | (with_reducible refine cso (by simp <;> omega) ?_) | (with_reducible refine iss ?_) | (with_reducible refine idn ?_ _) | (rw [k5_7]; done) | (rw [k5_7]; rfl))
  have n_f2_0 : w4.frozen? ⟨w.heap.size + 1 + 1, 0, none⟩ = false := by rw [hw4]; simp [f2_0]
  have n_f2_1 : w4.frozen? ⟨w.heap.size + 1 + 1, 1, none⟩ = false := by rw [hw4]; simp [f2_1]
  have n_f2_2 : w4.frozen? ⟨w.heap.size + 1 + 1, 2, none⟩ = false := by rw [hw4]; simp [f2_2]
  have n_f2_3 : w4.frozen? ⟨w.heap.size + 1 + 1, 3, none⟩ = false := by rw [hw4]; simp [f2_3]
  have n_f2_4 : w4.frozen? ⟨w.heap.size + 1 + 1, 4, none⟩ = false := by rw [hw4]; simp [f2_4]
  have n_f2_5 : w4.frozen? ⟨w.heap.size + 1 + 1, 5, none⟩ = false := by rw [hw4]; simp [f2_5]
  have n_f2_6 : w4.frozen? ⟨w.heap.size + 1 + 1, 6, none⟩ = false := by rw [hw4]; simp [f2_6]
  have n_f2_7 : w4.frozen? ⟨w.heap.size + 1 + 1, 7, none⟩ = false := by rw [hw4]; simp [f2_7]
  have n_f3_0 : w4.frozen? ⟨w.heap.size + 1 + 1 + 1, 0, none⟩ = false := by rw [hw4]; simp [f3_0]
  have n_f4_0 : w4.frozen? ⟨w.heap.size + 1 + 1 + 1 + 1, 0, none⟩ = false := by rw [hw4]; simp [f4_0]
  have n_f4_1 : w4.frozen? ⟨w.heap.size + 1 + 1 + 1 + 1, 1, none⟩ = false := by rw [hw4]; simp [f4_1]
  have n_f4_2 : w4.frozen? ⟨w.heap.size + 1 + 1 + 1 + 1, 2, none⟩ = false := by rw [hw4]; simp [f4_2]
  have n_f4_3 : w4.frozen? ⟨w.heap.size + 1 + 1 + 1 + 1, 3, none⟩ = false := by rw [hw4]; simp [f4_3]
  have n_f4_4 : w4.frozen? ⟨w.heap.size + 1 + 1 + 1 + 1, 4, none⟩ = false := by rw [hw4]; simp [f4_4]
  have n_f4_5 : w4.frozen? ⟨w.heap.size + 1 + 1 + 1 + 1, 5, none⟩ = false := by rw [hw4]; simp [f4_5]
  have n_f4_6 : w4.frozen? ⟨w.heap.size + 1 + 1 + 1 + 1, 6, none⟩ = false := by rw [hw4]; simp [f4_6]
  have n_f4_7 : w4.frozen? ⟨w.heap.size + 1 + 1 + 1 + 1, 7, none⟩ = false := by rw [hw4]; simp [f4_7]
  have n_f5_0 : w4.frozen? ⟨w.heap.size + 1 + 1 + 1 + 1 + 1, 0, none⟩ = false := by rw [hw4]; simp [f5_0]
  have n_f5_1 : w4.frozen? ⟨w.heap.size + 1 + 1 + 1 + 1 + 1, 1, none⟩ = false := by rw [hw4]; simp [f5_1]
  have n_f5_2 : w4.frozen? ⟨w.heap.size + 1 + 1 + 1 + 1 + 1, 2, none⟩ = false := by rw [hw4]; simp [f5_2]
  have n_f5_3 : w4.frozen? ⟨w.heap.size + 1 + 1 + 1 + 1 + 1, 3, none⟩ = false := by rw [hw4]; simp [f5_3]
  have n_f5_4 : w4.frozen? ⟨w.heap.size + 1 + 1 + 1 + 1 + 1, 4, none⟩ = false := by rw [hw4]; simp [f5_4]
  have n_f5_5 : w4.frozen? ⟨w.heap.size + 1 + 1 + 1 + 1 + 1, 5, none⟩ = false := by rw [hw4]; simp [f5_5]
  have n_f5_6 : w4.frozen? ⟨w.heap.size + 1 + 1 + 1 + 1 + 1, 6, none⟩ = false := by rw [hw4]; simp [f5_6]
  have n_f5_7 : w4.frozen? ⟨w.heap.size + 1 + 1 + 1 + 1 + 1, 7, none⟩ = false := by rw [hw4]; simp [f5_7]
  replace z_ : w.heap.size + 1 + 1 + 1 + 1 + 1 < w4.heap.size := by rw [hw4]; simpa using z_
  have hs_4 : w3.heap.size = w4.heap.size := by rw [hw4]; simp
  replace HB : Below w.heap.size w w4 := by
    rw [hw4]
    repeat (first | (with_reducible exact HB) | (with_reducible refine below_drewN' ?_ _) | (with_reducible refine Below.drew ?_) | (with_reducible refine Below.setCell ?_ (by simp <;> omega) _))
  clear hw4 k0_0 k0_1 k0_2 k0_3 k0_4 k0_5 k0_6 k0_7 k1_0 k2_0 k2_1 k2_2 k2_3 k2_4 k2_5 k2_6 k2_7 k3_0 k4_0 k4_1 k4_2 k4_3 k4_4 k4_5 k4_6 k4_7 k5_0 k5_1 k5_2 k5_3 k5_4 k5_5 k5_6 k5_7 f2_0 f2_1 f2_2 f2_3 f2_4 f2_5 f2_6 f2_7 f3_0 f4_0 f4_1 f4_2 f4_3 f4_4 f4_5 f4_6 f4_7 f5_0 f5_1 f5_2 f5_3 f5_4 f5_5 f5_6 f5_7
  have k0_0 := n_k0_0; clear n_k0_0
  have k0_1 := n_k0_1; clear n_k0_1
  have k0_2 := n_k0_2; clear n_k0_2
  have k0_3 := n_k0_3; clear n_k0_3
  have k0_4 := n_k0_4; clear n_k0_4
  have k0_5 := n_k0_5; clear n_k0_5
  have k0_6 := n_k0_6; clear n_k0_6
  have k0_7 := n_k0_7; clear n_k0_7
  have k1_0 := n_k1_0; clear n_k1_0
  have k2_0 := n_k2_0; clear n_k2_0
  have k2_1 := n_k2_1; clear n_k2_1
  have k2_2 := n_k2_2; clear n_k2_2
  have k2_3 := n_k2_3; clear n_k2_3
  have k2_4 := n_k2_4; clear n_k2_4
  have k2_5 := n_k2_5; clear n_k2_5
  have k2_6 := n_k2_6; clear n_k2_6
  have k2_7 := n_k2_7; clear n_k2_7
  have k3_0 := n_k3_0; clear n_k3_0
  have k4_0 := n_k4_0; clear n_k4_0
  have k4_1 := n_k4_1; clear n_k4_1
  have k4_2 := n_k4_2; clear n_k4_2
  have k4_3 := n_k4_3; clear n_k4_3
  have k4_4 := n_k4_4; clear n_k4_4
  have k4_5 := n_k4_5; clear n_k4_5
  have k4_6 := n_k4_6; clear n_k4_6
  have k4_7 := n_k4_7; clear n_k4_7
  have k5_0 := n_k5_0; clear n_k5_0
  have k5_1 := n_k5_1; clear n_k5_1
  have k5_2 := n_k5_2; clear n_k5_2
  have k5_3 := n_k5_3; clear n_k5_3
  have k5_4 := n_k5_4; clear n_k5_4
  have k5_5 := n_k5_5; clear n_k5_5
  have k5_6 := n_k5_6; clear n_k5_6
  have k5_7 := n_k5_7; clear n_k5_7
  have f2_0 := n_f2_0; clear n_f2_0
  have f2_1 := n_f2_1; clear n_f2_1
  have f2_2 := n_f2_2; clear n_f2_2
  have f2_3 := n_f2_3; clear n_f2_3
  have f2_4 := n_f2_4; clear n_f2_4
  have f2_5 := n_f2_5; clear n_f2_5
  have f2_6 := n_f2_6; clear n_f2_6
  have f2_7 := n_f2_7; clear n_f2_7
  have f3_0 := n_f3_0; clear n_f3_0
  have f4_0 := n_f4_0; clear n_f4_0
  have f4_1 := n_f4_1; clear n_f4_1
  have f4_2 := n_f4_2; clear n_f4_2
  have f4_3 := n_f4_3; clear n_f4_3
  have f4_4 := n_f4_4; clear n_f4_4
  have f4_5 := n_f4_5; clear n_f4_5
  have f4_6 := n_f4_6; clear n_f4_6
  have f4_7 := n_f4_7; clear n_f4_7
  have f5_0 := n_f5_0; clear n_f5_0
  have f5_1 := n_f5_1; clear n_f5_1
  have f5_2 := n_f5_2; clear n_f5_2
  have f5_3 := n_f5_3; clear n_f5_3
  have f5_4 := n_f5_4; clear n_f5_4
  have f5_5 := n_f5_5; clear n_f5_5
  have f5_6 := n_f5_6; clear n_f5_6
  have f5_7 := n_f5_7; clear n_f5_7
  rw [hs_4]
  clear hs_4
  have hbA : Below w4.heap.size w4 (w4.alloc (.cells #[.int .i64 mq, .int .i64 mp, .int .i64 0, .int .i64 0, .bool false, .int .i64 mq, .int .i64 en, .int .i64 (en + mp)] 35)) := (Below.refl _ _).alloc (Nat.le_refl _) _
  replace k0_0 := keep hbA k0_0
  replace k0_1 := keep hbA k0_1
  replace k0_2 := keep hbA k0_2
  replace k0_3 := keep hbA k0_3
  replace k0_4 := keep hbA k0_4
  replace k0_5 := keep hbA k0_5
  replace k0_6 := keep hbA k0_6
  replace k0_7 := keep hbA k0_7
  replace k1_0 := keep hbA k1_0
  replace k2_0 := keep hbA k2_0
  replace k2_1 := keep hbA k2_1
  replace k2_2 := keep hbA k2_2
  replace k2_3 := keep hbA k2_3
  replace k2_4 := keep hbA k2_4
  replace k2_5 := keep hbA k2_5
  replace k2_6 := keep hbA k2_6
  replace k2_7 := keep hbA k2_7
  replace k3_0 := keep hbA k3_0
  replace k4_0 := keep hbA k4_0
  replace k4_1 := keep hbA k4_1
  replace k4_2 := keep hbA k4_2
  replace k4_3 := keep hbA k4_3
  replace k4_4 := keep hbA k4_4
  replace k4_5 := keep hbA k4_5
  replace k4_6 := keep hbA k4_6
  replace k4_7 := keep hbA k4_7
  replace k5_0 := keep hbA k5_0
  replace k5_1 := keep hbA k5_1
  replace k5_2 := keep hbA k5_2
  replace k5_3 := keep hbA k5_3
  replace k5_4 := keep hbA k5_4
  replace k5_5 := keep hbA k5_5
  replace k5_6 := keep hbA k5_6
  replace k5_7 := keep hbA k5_7
  replace f2_0 := keepf hbA (by omega) f2_0
  replace f2_1 := keepf hbA (by omega) f2_1
  replace f2_2 := keepf hbA (by omega) f2_2
  replace f2_3 := keepf hbA (by omega) f2_3
  replace f2_4 := keepf hbA (by omega) f2_4
  replace f2_5 := keepf hbA (by omega) f2_5
  replace f2_6 := keepf hbA (by omega) f2_6
  replace f2_7 := keepf hbA (by omega) f2_7
  replace f3_0 := keepf hbA (by omega) f3_0
  replace f4_0 := keepf hbA (by omega) f4_0
  replace f4_1 := keepf hbA (by omega) f4_1
  replace f4_2 := keepf hbA (by omega) f4_2
  replace f4_3 := keepf hbA (by omega) f4_3
  replace f4_4 := keepf hbA (by omega) f4_4
  replace f4_5 := keepf hbA (by omega) f4_5
  replace f4_6 := keepf hbA (by omega) f4_6
  replace f4_7 := keepf hbA (by omega) f4_7
  replace f5_0 := keepf hbA (by omega) f5_0
  replace f5_1 := keepf hbA (by omega) f5_1
  replace f5_2 := keepf hbA (by omega) f5_2
  replace f5_3 := keepf hbA (by omega) f5_3
  replace f5_4 := keepf hbA (by omega) f5_4
  replace f5_5 := keepf hbA (by omega) f5_5
  replace f5_6 := keepf hbA (by omega) f5_6
  replace f5_7 := keepf hbA (by omega) f5_7
  have z0_ := z_; replace z_ := Nat.lt_of_lt_of_le z_ hbA.size
  replace HB := below_call HB (Nat.le_refl _) hbA
  clear hbA
  have u1_0 : (w4.alloc (.cells #[.int .i64 mq, .int .i64 mp, .int .i64 0, .int .i64 0, .bool false, .int .i64 mq, .int .i64 en, .int .i64 (en + mp)] 35)).cell? ⟨w4.heap.size, 0, none⟩ = some (.int .i64 mq) := by simp
  have u1_1 : (w4.alloc (.cells #[.int .i64 mq, .int .i64 mp, .int .i64 0, .int .i64 0, .bool false, .int .i64 mq, .int .i64 en, .int .i64 (en + mp)] 35)).cell? ⟨w4.heap.size, 1, none⟩ = some (.int .i64 mp) := by simp
  have u1_2 : (w4.alloc (.cells #[.int .i64 mq, .int .i64 mp, .int .i64 0, .int .i64 0, .bool false, .int .i64 mq, .int .i64 en, .int .i64 (en + mp)] 35)).cell? ⟨w4.heap.size, 2, none⟩ = some (.int .i64 0) := by simp
  have u1_3 : (w4.alloc (.cells #[.int .i64 mq, .int .i64 mp, .int .i64 0, .int .i64 0, .bool false, .int .i64 mq, .int .i64 en, .int .i64 (en + mp)] 35)).cell? ⟨w4.heap.size, 3, none⟩ = some (.int .i64 0) := by simp
  have u1_4 : (w4.alloc (.cells #[.int .i64 mq, .int .i64 mp, .int .i64 0, .int .i64 0, .bool false, .int .i64 mq, .int .i64 en, .int .i64 (en + mp)] 35)).cell? ⟨w4.heap.size, 4, none⟩ = some (.bool false) := by simp
  have u1_5 : (w4.alloc (.cells #[.int .i64 mq, .int .i64 mp, .int .i64 0, .int .i64 0, .bool false, .int .i64 mq, .int .i64 en, .int .i64 (en + mp)] 35)).cell? ⟨w4.heap.size, 5, none⟩ = some (.int .i64 mq) := by simp
  have u1_6 : (w4.alloc (.cells #[.int .i64 mq, .int .i64 mp, .int .i64 0, .int .i64 0, .bool false, .int .i64 mq, .int .i64 en, .int .i64 (en + mp)] 35)).cell? ⟨w4.heap.size, 6, none⟩ = some (.int .i64 en) := by simp
  have u1_7 : (w4.alloc (.cells #[.int .i64 mq, .int .i64 mp, .int .i64 0, .int .i64 0, .bool false, .int .i64 mq, .int .i64 en, .int .i64 (en + mp)] 35)).cell? ⟨w4.heap.size, 7, none⟩ = some (.int .i64 (en + mp)) := by simp
  have hd_ : w.heap.size + 1 + 1 + 1 + 1 + 1 < w4.heap.size := z0_
  go_region_held3 (fun w' => w'.cell? ⟨w4.heap.size, 0, none⟩ = some (.int .i64 mq) ∧ w'.cell? ⟨w4.heap.size, 1, none⟩ = some (.int .i64 mp) ∧ w'.cell? ⟨w4.heap.size, 2, none⟩ = some (.int .i64 0) ∧ w'.cell? ⟨w4.heap.size, 3, none⟩ = some (.int .i64 0) ∧ w'.cell? ⟨w4.heap.size, 4, none⟩ = some (.bool false) ∧ w'.cell? ⟨w4.heap.size, 5, none⟩ = some (.int .i64 mq) ∧ w'.cell? ⟨w4.heap.size, 6, none⟩ = some (.int .i64 en) ∧ w'.cell? ⟨w4.heap.size, 7, none⟩ = some (.int .i64 (en + mp)) ∧ w'.cell? ⟨w.heap.size + 1 + 1 + 1, 0, none⟩ = some (.bool false)) (((try go_split_ands); refine ⟨?_, ?_, ?_, ?_, ?_, ?_, ?_, ?_, ?_⟩ <;> (repeat (first | (with_reducible assumption) | (with_reducible refine cdr ?_) | (with_reducible refine cso (by simp <;> omega) ?_))))) (fail)
  go_wp2
  refine bodyPost_ret (v := .tuple #[.agg #[.int .i64 mq, .int .i64 mp, .int .i64 0, .int .i64 0, .bool false, .int .i64 mq, .int .i64 en, .int .i64 (en + mp)], .bool false, .nilIface]) (by simp [results, Try.results17, go_sem, k2_0, k2_1, k2_2, k2_3, k2_4, k2_5, k2_6, k2_7]) rfl ⟨rfl, ?_⟩
  repeat (first | (with_reducible exact HB) | (with_reducible refine below_drewN' ?_ _) | (with_reducible refine Below.drew ?_) | (with_reducible refine Below.setCell ?_ (by simp <;> omega) _))

end Go.Proofs.Ytggcahcdhjnemaa
