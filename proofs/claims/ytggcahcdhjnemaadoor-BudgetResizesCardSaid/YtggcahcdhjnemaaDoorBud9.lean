/- The reference's Resize, by contract. -/
import Derived.Test.YtggcahcdhjnemaaDoorBud3
import Derived.Deep.DeepCutAuto
import Derived.Deep.CutBlock
import Derived.Test.YtggcahcdhjnemaaDoorRef1
set_option linter.unusedVariables false
set_option linter.unusedSimpArgs false
namespace Go.Proofs.YtggcahcdhjnemaaDoor
open Go.RowKit
attribute [local go_sem high] eqRes

set_option maxHeartbeats 4000000 in
set_option maxRecDepth 100000 in
theorem rrs_bad (mq mp xq xp : Int) (dy : Bool) (lf st en q p : Int) (w : World) (h : ¬ BV mq mp xq xp lf st en) :
    Calls Tryd.prog 35 #[bud mq mp xq xp dy lf st en, .agg #[.int .i64 q, .int .i64 p]] w fun e w' => e = .returned (.tuple #[budZ, .int .i64 270]) ∧ Below w.heap.size w w' := by
  have HB : Below w.heap.size w (((w.alloc (.cells #[.int .i64 mq, .int .i64 mp, .int .i64 xq, .int .i64 xp, .bool dy, .int .i64 lf, .int .i64 st, .int .i64 en] 30)).alloc (.cells #[.int .i64 q, .int .i64 p] 23)).alloc (.cells #[.int .i64 0, .int .i64 0, .int .i64 0, .int .i64 0, .bool false, .int .i64 0, .int .i64 0, .int .i64 0] 30)) := ((((Below.refl _ w).alloc (by simp) _).alloc (by simp) _).alloc (by simp; omega) _)
  have k0_0 : (((w.alloc (.cells #[.int .i64 mq, .int .i64 mp, .int .i64 xq, .int .i64 xp, .bool dy, .int .i64 lf, .int .i64 st, .int .i64 en] 30)).alloc (.cells #[.int .i64 q, .int .i64 p] 23)).alloc (.cells #[.int .i64 0, .int .i64 0, .int .i64 0, .int .i64 0, .bool false, .int .i64 0, .int .i64 0, .int .i64 0] 30)).cell? ⟨w.heap.size, 0, none⟩ = some (.int .i64 mq) := by rw [World.cell?_alloc_lt _ _ _ (by simp <;> omega), World.cell?_alloc_lt _ _ _ (by simp <;> omega), World.cell?_alloc_at _ _ _ _ (by simp)]; rfl
  have f0_0 : (((w.alloc (.cells #[.int .i64 mq, .int .i64 mp, .int .i64 xq, .int .i64 xp, .bool dy, .int .i64 lf, .int .i64 st, .int .i64 en] 30)).alloc (.cells #[.int .i64 q, .int .i64 p] 23)).alloc (.cells #[.int .i64 0, .int .i64 0, .int .i64 0, .int .i64 0, .bool false, .int .i64 0, .int .i64 0, .int .i64 0] 30)).frozen? ⟨w.heap.size, 0, none⟩ = false := by simp only [frozen?_alloc_cells]; exact frozen_beyond _ _ _ (by omega)
  have k0_1 : (((w.alloc (.cells #[.int .i64 mq, .int .i64 mp, .int .i64 xq, .int .i64 xp, .bool dy, .int .i64 lf, .int .i64 st, .int .i64 en] 30)).alloc (.cells #[.int .i64 q, .int .i64 p] 23)).alloc (.cells #[.int .i64 0, .int .i64 0, .int .i64 0, .int .i64 0, .bool false, .int .i64 0, .int .i64 0, .int .i64 0] 30)).cell? ⟨w.heap.size, 1, none⟩ = some (.int .i64 mp) := by rw [World.cell?_alloc_lt _ _ _ (by simp <;> omega), World.cell?_alloc_lt _ _ _ (by simp <;> omega), World.cell?_alloc_at _ _ _ _ (by simp)]; rfl
  have f0_1 : (((w.alloc (.cells #[.int .i64 mq, .int .i64 mp, .int .i64 xq, .int .i64 xp, .bool dy, .int .i64 lf, .int .i64 st, .int .i64 en] 30)).alloc (.cells #[.int .i64 q, .int .i64 p] 23)).alloc (.cells #[.int .i64 0, .int .i64 0, .int .i64 0, .int .i64 0, .bool false, .int .i64 0, .int .i64 0, .int .i64 0] 30)).frozen? ⟨w.heap.size, 1, none⟩ = false := by simp only [frozen?_alloc_cells]; exact frozen_beyond _ _ _ (by omega)
  have k0_2 : (((w.alloc (.cells #[.int .i64 mq, .int .i64 mp, .int .i64 xq, .int .i64 xp, .bool dy, .int .i64 lf, .int .i64 st, .int .i64 en] 30)).alloc (.cells #[.int .i64 q, .int .i64 p] 23)).alloc (.cells #[.int .i64 0, .int .i64 0, .int .i64 0, .int .i64 0, .bool false, .int .i64 0, .int .i64 0, .int .i64 0] 30)).cell? ⟨w.heap.size, 2, none⟩ = some (.int .i64 xq) := by rw [World.cell?_alloc_lt _ _ _ (by simp <;> omega), World.cell?_alloc_lt _ _ _ (by simp <;> omega), World.cell?_alloc_at _ _ _ _ (by simp)]; rfl
  have f0_2 : (((w.alloc (.cells #[.int .i64 mq, .int .i64 mp, .int .i64 xq, .int .i64 xp, .bool dy, .int .i64 lf, .int .i64 st, .int .i64 en] 30)).alloc (.cells #[.int .i64 q, .int .i64 p] 23)).alloc (.cells #[.int .i64 0, .int .i64 0, .int .i64 0, .int .i64 0, .bool false, .int .i64 0, .int .i64 0, .int .i64 0] 30)).frozen? ⟨w.heap.size, 2, none⟩ = false := by simp only [frozen?_alloc_cells]; exact frozen_beyond _ _ _ (by omega)
  have k0_3 : (((w.alloc (.cells #[.int .i64 mq, .int .i64 mp, .int .i64 xq, .int .i64 xp, .bool dy, .int .i64 lf, .int .i64 st, .int .i64 en] 30)).alloc (.cells #[.int .i64 q, .int .i64 p] 23)).alloc (.cells #[.int .i64 0, .int .i64 0, .int .i64 0, .int .i64 0, .bool false, .int .i64 0, .int .i64 0, .int .i64 0] 30)).cell? ⟨w.heap.size, 3, none⟩ = some (.int .i64 xp) := by rw [World.cell?_alloc_lt _ _ _ (by simp <;> omega), World.cell?_alloc_lt _ _ _ (by simp <;> omega), World.cell?_alloc_at _ _ _ _ (by simp)]; rfl
  have f0_3 : (((w.alloc (.cells #[.int .i64 mq, .int .i64 mp, .int .i64 xq, .int .i64 xp, .bool dy, .int .i64 lf, .int .i64 st, .int .i64 en] 30)).alloc (.cells #[.int .i64 q, .int .i64 p] 23)).alloc (.cells #[.int .i64 0, .int .i64 0, .int .i64 0, .int .i64 0, .bool false, .int .i64 0, .int .i64 0, .int .i64 0] 30)).frozen? ⟨w.heap.size, 3, none⟩ = false := by simp only [frozen?_alloc_cells]; exact frozen_beyond _ _ _ (by omega)
  have k0_4 : (((w.alloc (.cells #[.int .i64 mq, .int .i64 mp, .int .i64 xq, .int .i64 xp, .bool dy, .int .i64 lf, .int .i64 st, .int .i64 en] 30)).alloc (.cells #[.int .i64 q, .int .i64 p] 23)).alloc (.cells #[.int .i64 0, .int .i64 0, .int .i64 0, .int .i64 0, .bool false, .int .i64 0, .int .i64 0, .int .i64 0] 30)).cell? ⟨w.heap.size, 4, none⟩ = some (.bool dy) := by rw [World.cell?_alloc_lt _ _ _ (by simp <;> omega), World.cell?_alloc_lt _ _ _ (by simp <;> omega), World.cell?_alloc_at _ _ _ _ (by simp)]; rfl
  have f0_4 : (((w.alloc (.cells #[.int .i64 mq, .int .i64 mp, .int .i64 xq, .int .i64 xp, .bool dy, .int .i64 lf, .int .i64 st, .int .i64 en] 30)).alloc (.cells #[.int .i64 q, .int .i64 p] 23)).alloc (.cells #[.int .i64 0, .int .i64 0, .int .i64 0, .int .i64 0, .bool false, .int .i64 0, .int .i64 0, .int .i64 0] 30)).frozen? ⟨w.heap.size, 4, none⟩ = false := by simp only [frozen?_alloc_cells]; exact frozen_beyond _ _ _ (by omega)
  have k0_5 : (((w.alloc (.cells #[.int .i64 mq, .int .i64 mp, .int .i64 xq, .int .i64 xp, .bool dy, .int .i64 lf, .int .i64 st, .int .i64 en] 30)).alloc (.cells #[.int .i64 q, .int .i64 p] 23)).alloc (.cells #[.int .i64 0, .int .i64 0, .int .i64 0, .int .i64 0, .bool false, .int .i64 0, .int .i64 0, .int .i64 0] 30)).cell? ⟨w.heap.size, 5, none⟩ = some (.int .i64 lf) := by rw [World.cell?_alloc_lt _ _ _ (by simp <;> omega), World.cell?_alloc_lt _ _ _ (by simp <;> omega), World.cell?_alloc_at _ _ _ _ (by simp)]; rfl
  have f0_5 : (((w.alloc (.cells #[.int .i64 mq, .int .i64 mp, .int .i64 xq, .int .i64 xp, .bool dy, .int .i64 lf, .int .i64 st, .int .i64 en] 30)).alloc (.cells #[.int .i64 q, .int .i64 p] 23)).alloc (.cells #[.int .i64 0, .int .i64 0, .int .i64 0, .int .i64 0, .bool false, .int .i64 0, .int .i64 0, .int .i64 0] 30)).frozen? ⟨w.heap.size, 5, none⟩ = false := by simp only [frozen?_alloc_cells]; exact frozen_beyond _ _ _ (by omega)
  have k0_6 : (((w.alloc (.cells #[.int .i64 mq, .int .i64 mp, .int .i64 xq, .int .i64 xp, .bool dy, .int .i64 lf, .int .i64 st, .int .i64 en] 30)).alloc (.cells #[.int .i64 q, .int .i64 p] 23)).alloc (.cells #[.int .i64 0, .int .i64 0, .int .i64 0, .int .i64 0, .bool false, .int .i64 0, .int .i64 0, .int .i64 0] 30)).cell? ⟨w.heap.size, 6, none⟩ = some (.int .i64 st) := by rw [World.cell?_alloc_lt _ _ _ (by simp <;> omega), World.cell?_alloc_lt _ _ _ (by simp <;> omega), World.cell?_alloc_at _ _ _ _ (by simp)]; rfl
  have f0_6 : (((w.alloc (.cells #[.int .i64 mq, .int .i64 mp, .int .i64 xq, .int .i64 xp, .bool dy, .int .i64 lf, .int .i64 st, .int .i64 en] 30)).alloc (.cells #[.int .i64 q, .int .i64 p] 23)).alloc (.cells #[.int .i64 0, .int .i64 0, .int .i64 0, .int .i64 0, .bool false, .int .i64 0, .int .i64 0, .int .i64 0] 30)).frozen? ⟨w.heap.size, 6, none⟩ = false := by simp only [frozen?_alloc_cells]; exact frozen_beyond _ _ _ (by omega)
  have k0_7 : (((w.alloc (.cells #[.int .i64 mq, .int .i64 mp, .int .i64 xq, .int .i64 xp, .bool dy, .int .i64 lf, .int .i64 st, .int .i64 en] 30)).alloc (.cells #[.int .i64 q, .int .i64 p] 23)).alloc (.cells #[.int .i64 0, .int .i64 0, .int .i64 0, .int .i64 0, .bool false, .int .i64 0, .int .i64 0, .int .i64 0] 30)).cell? ⟨w.heap.size, 7, none⟩ = some (.int .i64 en) := by rw [World.cell?_alloc_lt _ _ _ (by simp <;> omega), World.cell?_alloc_lt _ _ _ (by simp <;> omega), World.cell?_alloc_at _ _ _ _ (by simp)]; rfl
  have f0_7 : (((w.alloc (.cells #[.int .i64 mq, .int .i64 mp, .int .i64 xq, .int .i64 xp, .bool dy, .int .i64 lf, .int .i64 st, .int .i64 en] 30)).alloc (.cells #[.int .i64 q, .int .i64 p] 23)).alloc (.cells #[.int .i64 0, .int .i64 0, .int .i64 0, .int .i64 0, .bool false, .int .i64 0, .int .i64 0, .int .i64 0] 30)).frozen? ⟨w.heap.size, 7, none⟩ = false := by simp only [frozen?_alloc_cells]; exact frozen_beyond _ _ _ (by omega)
  have k1_0 : (((w.alloc (.cells #[.int .i64 mq, .int .i64 mp, .int .i64 xq, .int .i64 xp, .bool dy, .int .i64 lf, .int .i64 st, .int .i64 en] 30)).alloc (.cells #[.int .i64 q, .int .i64 p] 23)).alloc (.cells #[.int .i64 0, .int .i64 0, .int .i64 0, .int .i64 0, .bool false, .int .i64 0, .int .i64 0, .int .i64 0] 30)).cell? ⟨w.heap.size + 1, 0, none⟩ = some (.int .i64 q) := by rw [World.cell?_alloc_lt _ _ _ (by simp <;> omega), World.cell?_alloc_at _ _ _ _ (by simp)]; rfl
  have k1_1 : (((w.alloc (.cells #[.int .i64 mq, .int .i64 mp, .int .i64 xq, .int .i64 xp, .bool dy, .int .i64 lf, .int .i64 st, .int .i64 en] 30)).alloc (.cells #[.int .i64 q, .int .i64 p] 23)).alloc (.cells #[.int .i64 0, .int .i64 0, .int .i64 0, .int .i64 0, .bool false, .int .i64 0, .int .i64 0, .int .i64 0] 30)).cell? ⟨w.heap.size + 1, 1, none⟩ = some (.int .i64 p) := by rw [World.cell?_alloc_lt _ _ _ (by simp <;> omega), World.cell?_alloc_at _ _ _ _ (by simp)]; rfl
  have k2_0 : (((w.alloc (.cells #[.int .i64 mq, .int .i64 mp, .int .i64 xq, .int .i64 xp, .bool dy, .int .i64 lf, .int .i64 st, .int .i64 en] 30)).alloc (.cells #[.int .i64 q, .int .i64 p] 23)).alloc (.cells #[.int .i64 0, .int .i64 0, .int .i64 0, .int .i64 0, .bool false, .int .i64 0, .int .i64 0, .int .i64 0] 30)).cell? ⟨w.heap.size + 1 + 1, 0, none⟩ = some (.int .i64 0) := by rw [World.cell?_alloc_at _ _ _ _ (by simp)]; rfl
  have f2_0 : (((w.alloc (.cells #[.int .i64 mq, .int .i64 mp, .int .i64 xq, .int .i64 xp, .bool dy, .int .i64 lf, .int .i64 st, .int .i64 en] 30)).alloc (.cells #[.int .i64 q, .int .i64 p] 23)).alloc (.cells #[.int .i64 0, .int .i64 0, .int .i64 0, .int .i64 0, .bool false, .int .i64 0, .int .i64 0, .int .i64 0] 30)).frozen? ⟨w.heap.size + 1 + 1, 0, none⟩ = false := by simp only [frozen?_alloc_cells]; exact frozen_beyond _ _ _ (by omega)
  have k2_1 : (((w.alloc (.cells #[.int .i64 mq, .int .i64 mp, .int .i64 xq, .int .i64 xp, .bool dy, .int .i64 lf, .int .i64 st, .int .i64 en] 30)).alloc (.cells #[.int .i64 q, .int .i64 p] 23)).alloc (.cells #[.int .i64 0, .int .i64 0, .int .i64 0, .int .i64 0, .bool false, .int .i64 0, .int .i64 0, .int .i64 0] 30)).cell? ⟨w.heap.size + 1 + 1, 1, none⟩ = some (.int .i64 0) := by rw [World.cell?_alloc_at _ _ _ _ (by simp)]; rfl
  have f2_1 : (((w.alloc (.cells #[.int .i64 mq, .int .i64 mp, .int .i64 xq, .int .i64 xp, .bool dy, .int .i64 lf, .int .i64 st, .int .i64 en] 30)).alloc (.cells #[.int .i64 q, .int .i64 p] 23)).alloc (.cells #[.int .i64 0, .int .i64 0, .int .i64 0, .int .i64 0, .bool false, .int .i64 0, .int .i64 0, .int .i64 0] 30)).frozen? ⟨w.heap.size + 1 + 1, 1, none⟩ = false := by simp only [frozen?_alloc_cells]; exact frozen_beyond _ _ _ (by omega)
  have k2_2 : (((w.alloc (.cells #[.int .i64 mq, .int .i64 mp, .int .i64 xq, .int .i64 xp, .bool dy, .int .i64 lf, .int .i64 st, .int .i64 en] 30)).alloc (.cells #[.int .i64 q, .int .i64 p] 23)).alloc (.cells #[.int .i64 0, .int .i64 0, .int .i64 0, .int .i64 0, .bool false, .int .i64 0, .int .i64 0, .int .i64 0] 30)).cell? ⟨w.heap.size + 1 + 1, 2, none⟩ = some (.int .i64 0) := by rw [World.cell?_alloc_at _ _ _ _ (by simp)]; rfl
  have f2_2 : (((w.alloc (.cells #[.int .i64 mq, .int .i64 mp, .int .i64 xq, .int .i64 xp, .bool dy, .int .i64 lf, .int .i64 st, .int .i64 en] 30)).alloc (.cells #[.int .i64 q, .int .i64 p] 23)).alloc (.cells #[.int .i64 0, .int .i64 0, .int .i64 0, .int .i64 0, .bool false, .int .i64 0, .int .i64 0, .int .i64 0] 30)).frozen? ⟨w.heap.size + 1 + 1, 2, none⟩ = false := by simp only [frozen?_alloc_cells]; exact frozen_beyond _ _ _ (by omega)
  have k2_3 : (((w.alloc (.cells #[.int .i64 mq, .int .i64 mp, .int .i64 xq, .int .i64 xp, .bool dy, .int .i64 lf, .int .i64 st, .int .i64 en] 30)).alloc (.cells #[.int .i64 q, .int .i64 p] 23)).alloc (.cells #[.int .i64 0, .int .i64 0, .int .i64 0, .int .i64 0, .bool false, .int .i64 0, .int .i64 0, .int .i64 0] 30)).cell? ⟨w.heap.size + 1 + 1, 3, none⟩ = some (.int .i64 0) := by rw [World.cell?_alloc_at _ _ _ _ (by simp)]; rfl
  have f2_3 : (((w.alloc (.cells #[.int .i64 mq, .int .i64 mp, .int .i64 xq, .int .i64 xp, .bool dy, .int .i64 lf, .int .i64 st, .int .i64 en] 30)).alloc (.cells #[.int .i64 q, .int .i64 p] 23)).alloc (.cells #[.int .i64 0, .int .i64 0, .int .i64 0, .int .i64 0, .bool false, .int .i64 0, .int .i64 0, .int .i64 0] 30)).frozen? ⟨w.heap.size + 1 + 1, 3, none⟩ = false := by simp only [frozen?_alloc_cells]; exact frozen_beyond _ _ _ (by omega)
  have k2_4 : (((w.alloc (.cells #[.int .i64 mq, .int .i64 mp, .int .i64 xq, .int .i64 xp, .bool dy, .int .i64 lf, .int .i64 st, .int .i64 en] 30)).alloc (.cells #[.int .i64 q, .int .i64 p] 23)).alloc (.cells #[.int .i64 0, .int .i64 0, .int .i64 0, .int .i64 0, .bool false, .int .i64 0, .int .i64 0, .int .i64 0] 30)).cell? ⟨w.heap.size + 1 + 1, 4, none⟩ = some (.bool false) := by rw [World.cell?_alloc_at _ _ _ _ (by simp)]; rfl
  have f2_4 : (((w.alloc (.cells #[.int .i64 mq, .int .i64 mp, .int .i64 xq, .int .i64 xp, .bool dy, .int .i64 lf, .int .i64 st, .int .i64 en] 30)).alloc (.cells #[.int .i64 q, .int .i64 p] 23)).alloc (.cells #[.int .i64 0, .int .i64 0, .int .i64 0, .int .i64 0, .bool false, .int .i64 0, .int .i64 0, .int .i64 0] 30)).frozen? ⟨w.heap.size + 1 + 1, 4, none⟩ = false := by simp only [frozen?_alloc_cells]; exact frozen_beyond _ _ _ (by omega)
  have k2_5 : (((w.alloc (.cells #[.int .i64 mq, .int .i64 mp, .int .i64 xq, .int .i64 xp, .bool dy, .int .i64 lf, .int .i64 st, .int .i64 en] 30)).alloc (.cells #[.int .i64 q, .int .i64 p] 23)).alloc (.cells #[.int .i64 0, .int .i64 0, .int .i64 0, .int .i64 0, .bool false, .int .i64 0, .int .i64 0, .int .i64 0] 30)).cell? ⟨w.heap.size + 1 + 1, 5, none⟩ = some (.int .i64 0) := by rw [World.cell?_alloc_at _ _ _ _ (by simp)]; rfl
  have f2_5 : (((w.alloc (.cells #[.int .i64 mq, .int .i64 mp, .int .i64 xq, .int .i64 xp, .bool dy, .int .i64 lf, .int .i64 st, .int .i64 en] 30)).alloc (.cells #[.int .i64 q, .int .i64 p] 23)).alloc (.cells #[.int .i64 0, .int .i64 0, .int .i64 0, .int .i64 0, .bool false, .int .i64 0, .int .i64 0, .int .i64 0] 30)).frozen? ⟨w.heap.size + 1 + 1, 5, none⟩ = false := by simp only [frozen?_alloc_cells]; exact frozen_beyond _ _ _ (by omega)
  have k2_6 : (((w.alloc (.cells #[.int .i64 mq, .int .i64 mp, .int .i64 xq, .int .i64 xp, .bool dy, .int .i64 lf, .int .i64 st, .int .i64 en] 30)).alloc (.cells #[.int .i64 q, .int .i64 p] 23)).alloc (.cells #[.int .i64 0, .int .i64 0, .int .i64 0, .int .i64 0, .bool false, .int .i64 0, .int .i64 0, .int .i64 0] 30)).cell? ⟨w.heap.size + 1 + 1, 6, none⟩ = some (.int .i64 0) := by rw [World.cell?_alloc_at _ _ _ _ (by simp)]; rfl
  have f2_6 : (((w.alloc (.cells #[.int .i64 mq, .int .i64 mp, .int .i64 xq, .int .i64 xp, .bool dy, .int .i64 lf, .int .i64 st, .int .i64 en] 30)).alloc (.cells #[.int .i64 q, .int .i64 p] 23)).alloc (.cells #[.int .i64 0, .int .i64 0, .int .i64 0, .int .i64 0, .bool false, .int .i64 0, .int .i64 0, .int .i64 0] 30)).frozen? ⟨w.heap.size + 1 + 1, 6, none⟩ = false := by simp only [frozen?_alloc_cells]; exact frozen_beyond _ _ _ (by omega)
  have k2_7 : (((w.alloc (.cells #[.int .i64 mq, .int .i64 mp, .int .i64 xq, .int .i64 xp, .bool dy, .int .i64 lf, .int .i64 st, .int .i64 en] 30)).alloc (.cells #[.int .i64 q, .int .i64 p] 23)).alloc (.cells #[.int .i64 0, .int .i64 0, .int .i64 0, .int .i64 0, .bool false, .int .i64 0, .int .i64 0, .int .i64 0] 30)).cell? ⟨w.heap.size + 1 + 1, 7, none⟩ = some (.int .i64 0) := by rw [World.cell?_alloc_at _ _ _ _ (by simp)]; rfl
  have f2_7 : (((w.alloc (.cells #[.int .i64 mq, .int .i64 mp, .int .i64 xq, .int .i64 xp, .bool dy, .int .i64 lf, .int .i64 st, .int .i64 en] 30)).alloc (.cells #[.int .i64 q, .int .i64 p] 23)).alloc (.cells #[.int .i64 0, .int .i64 0, .int .i64 0, .int .i64 0, .bool false, .int .i64 0, .int .i64 0, .int .i64 0] 30)).frozen? ⟨w.heap.size + 1 + 1, 7, none⟩ = false := by simp only [frozen?_alloc_cells]; exact frozen_beyond _ _ _ (by omega)
  have z_ : w.heap.size + 1 + 1 < (((w.alloc (.cells #[.int .i64 mq, .int .i64 mp, .int .i64 xq, .int .i64 xp, .bool dy, .int .i64 lf, .int .i64 st, .int .i64 en] 30)).alloc (.cells #[.int .i64 q, .int .i64 p] 23)).alloc (.cells #[.int .i64 0, .int .i64 0, .int .i64 0, .int .i64 0, .bool false, .int .i64 0, .int .i64 0, .int .i64 0] 30)).heap.size := by simp
  go_enter Tryd.func35, Tryd.ntmps35
  go_wp2_with fail
  refine (rbvalid_bad mq mp xq xp dy lf st en _ h).mono ?_
  rintro e w1 ⟨rfl, hb1⟩
  replace k0_0 := keep hb1 k0_0
  replace k0_1 := keep hb1 k0_1
  replace k0_2 := keep hb1 k0_2
  replace k0_3 := keep hb1 k0_3
  replace k0_4 := keep hb1 k0_4
  replace k0_5 := keep hb1 k0_5
  replace k0_6 := keep hb1 k0_6
  replace k0_7 := keep hb1 k0_7
  replace k1_0 := keep hb1 k1_0
  replace k1_1 := keep hb1 k1_1
  replace k2_0 := keep hb1 k2_0
  replace k2_1 := keep hb1 k2_1
  replace k2_2 := keep hb1 k2_2
  replace k2_3 := keep hb1 k2_3
  replace k2_4 := keep hb1 k2_4
  replace k2_5 := keep hb1 k2_5
  replace k2_6 := keep hb1 k2_6
  replace k2_7 := keep hb1 k2_7
  replace f0_0 := keepf hb1 (by omega) f0_0
  replace f0_1 := keepf hb1 (by omega) f0_1
  replace f0_2 := keepf hb1 (by omega) f0_2
  replace f0_3 := keepf hb1 (by omega) f0_3
  replace f0_4 := keepf hb1 (by omega) f0_4
  replace f0_5 := keepf hb1 (by omega) f0_5
  replace f0_6 := keepf hb1 (by omega) f0_6
  replace f0_7 := keepf hb1 (by omega) f0_7
  replace f2_0 := keepf hb1 (by omega) f2_0
  replace f2_1 := keepf hb1 (by omega) f2_1
  replace f2_2 := keepf hb1 (by omega) f2_2
  replace f2_3 := keepf hb1 (by omega) f2_3
  replace f2_4 := keepf hb1 (by omega) f2_4
  replace f2_5 := keepf hb1 (by omega) f2_5
  replace f2_6 := keepf hb1 (by omega) f2_6
  replace f2_7 := keepf hb1 (by omega) f2_7
  replace z_ := Nat.lt_of_lt_of_le z_ hb1.size
  replace HB := below_call HB (Nat.le_refl _) hb1
  clear hb1
  go_wp2
  refine bodyPost_ret (v := .tuple #[budZ, .int .i64 270]) (by simp [results, Tryd.results35, go_sem, k2_0, k2_1, k2_2, k2_3, k2_4, k2_5, k2_6, k2_7]) rfl ⟨rfl, ?_⟩
  repeat (first | (with_reducible exact HB) | (with_reducible refine below_drewN' ?_ _) | (with_reducible refine Below.drew ?_) | (with_reducible refine Below.setCell ?_ (by simp <;> omega) _))

set_option maxHeartbeats 4000000 in
set_option maxRecDepth 100000 in
theorem rrs_range (mq mp xq xp : Int) (dy : Bool) (lf st en q p : Int) (w : World) (h : BV mq mp xq xp lf st en) (hr : ¬ Vld q p) :
    Calls Tryd.prog 35 #[bud mq mp xq xp dy lf st en, .agg #[.int .i64 q, .int .i64 p]] w fun e w' => e = .returned (.tuple #[budZ, .int .i64 2]) ∧ Below w.heap.size w w' := by
  have HB : Below w.heap.size w (((w.alloc (.cells #[.int .i64 mq, .int .i64 mp, .int .i64 xq, .int .i64 xp, .bool dy, .int .i64 lf, .int .i64 st, .int .i64 en] 30)).alloc (.cells #[.int .i64 q, .int .i64 p] 23)).alloc (.cells #[.int .i64 0, .int .i64 0, .int .i64 0, .int .i64 0, .bool false, .int .i64 0, .int .i64 0, .int .i64 0] 30)) := ((((Below.refl _ w).alloc (by simp) _).alloc (by simp) _).alloc (by simp; omega) _)
  have k0_0 : (((w.alloc (.cells #[.int .i64 mq, .int .i64 mp, .int .i64 xq, .int .i64 xp, .bool dy, .int .i64 lf, .int .i64 st, .int .i64 en] 30)).alloc (.cells #[.int .i64 q, .int .i64 p] 23)).alloc (.cells #[.int .i64 0, .int .i64 0, .int .i64 0, .int .i64 0, .bool false, .int .i64 0, .int .i64 0, .int .i64 0] 30)).cell? ⟨w.heap.size, 0, none⟩ = some (.int .i64 mq) := by rw [World.cell?_alloc_lt _ _ _ (by simp <;> omega), World.cell?_alloc_lt _ _ _ (by simp <;> omega), World.cell?_alloc_at _ _ _ _ (by simp)]; rfl
  have f0_0 : (((w.alloc (.cells #[.int .i64 mq, .int .i64 mp, .int .i64 xq, .int .i64 xp, .bool dy, .int .i64 lf, .int .i64 st, .int .i64 en] 30)).alloc (.cells #[.int .i64 q, .int .i64 p] 23)).alloc (.cells #[.int .i64 0, .int .i64 0, .int .i64 0, .int .i64 0, .bool false, .int .i64 0, .int .i64 0, .int .i64 0] 30)).frozen? ⟨w.heap.size, 0, none⟩ = false := by simp only [frozen?_alloc_cells]; exact frozen_beyond _ _ _ (by omega)
  have k0_1 : (((w.alloc (.cells #[.int .i64 mq, .int .i64 mp, .int .i64 xq, .int .i64 xp, .bool dy, .int .i64 lf, .int .i64 st, .int .i64 en] 30)).alloc (.cells #[.int .i64 q, .int .i64 p] 23)).alloc (.cells #[.int .i64 0, .int .i64 0, .int .i64 0, .int .i64 0, .bool false, .int .i64 0, .int .i64 0, .int .i64 0] 30)).cell? ⟨w.heap.size, 1, none⟩ = some (.int .i64 mp) := by rw [World.cell?_alloc_lt _ _ _ (by simp <;> omega), World.cell?_alloc_lt _ _ _ (by simp <;> omega), World.cell?_alloc_at _ _ _ _ (by simp)]; rfl
  have f0_1 : (((w.alloc (.cells #[.int .i64 mq, .int .i64 mp, .int .i64 xq, .int .i64 xp, .bool dy, .int .i64 lf, .int .i64 st, .int .i64 en] 30)).alloc (.cells #[.int .i64 q, .int .i64 p] 23)).alloc (.cells #[.int .i64 0, .int .i64 0, .int .i64 0, .int .i64 0, .bool false, .int .i64 0, .int .i64 0, .int .i64 0] 30)).frozen? ⟨w.heap.size, 1, none⟩ = false := by simp only [frozen?_alloc_cells]; exact frozen_beyond _ _ _ (by omega)
  have k0_2 : (((w.alloc (.cells #[.int .i64 mq, .int .i64 mp, .int .i64 xq, .int .i64 xp, .bool dy, .int .i64 lf, .int .i64 st, .int .i64 en] 30)).alloc (.cells #[.int .i64 q, .int .i64 p] 23)).alloc (.cells #[.int .i64 0, .int .i64 0, .int .i64 0, .int .i64 0, .bool false, .int .i64 0, .int .i64 0, .int .i64 0] 30)).cell? ⟨w.heap.size, 2, none⟩ = some (.int .i64 xq) := by rw [World.cell?_alloc_lt _ _ _ (by simp <;> omega), World.cell?_alloc_lt _ _ _ (by simp <;> omega), World.cell?_alloc_at _ _ _ _ (by simp)]; rfl
  have f0_2 : (((w.alloc (.cells #[.int .i64 mq, .int .i64 mp, .int .i64 xq, .int .i64 xp, .bool dy, .int .i64 lf, .int .i64 st, .int .i64 en] 30)).alloc (.cells #[.int .i64 q, .int .i64 p] 23)).alloc (.cells #[.int .i64 0, .int .i64 0, .int .i64 0, .int .i64 0, .bool false, .int .i64 0, .int .i64 0, .int .i64 0] 30)).frozen? ⟨w.heap.size, 2, none⟩ = false := by simp only [frozen?_alloc_cells]; exact frozen_beyond _ _ _ (by omega)
  have k0_3 : (((w.alloc (.cells #[.int .i64 mq, .int .i64 mp, .int .i64 xq, .int .i64 xp, .bool dy, .int .i64 lf, .int .i64 st, .int .i64 en] 30)).alloc (.cells #[.int .i64 q, .int .i64 p] 23)).alloc (.cells #[.int .i64 0, .int .i64 0, .int .i64 0, .int .i64 0, .bool false, .int .i64 0, .int .i64 0, .int .i64 0] 30)).cell? ⟨w.heap.size, 3, none⟩ = some (.int .i64 xp) := by rw [World.cell?_alloc_lt _ _ _ (by simp <;> omega), World.cell?_alloc_lt _ _ _ (by simp <;> omega), World.cell?_alloc_at _ _ _ _ (by simp)]; rfl
  have f0_3 : (((w.alloc (.cells #[.int .i64 mq, .int .i64 mp, .int .i64 xq, .int .i64 xp, .bool dy, .int .i64 lf, .int .i64 st, .int .i64 en] 30)).alloc (.cells #[.int .i64 q, .int .i64 p] 23)).alloc (.cells #[.int .i64 0, .int .i64 0, .int .i64 0, .int .i64 0, .bool false, .int .i64 0, .int .i64 0, .int .i64 0] 30)).frozen? ⟨w.heap.size, 3, none⟩ = false := by simp only [frozen?_alloc_cells]; exact frozen_beyond _ _ _ (by omega)
  have k0_4 : (((w.alloc (.cells #[.int .i64 mq, .int .i64 mp, .int .i64 xq, .int .i64 xp, .bool dy, .int .i64 lf, .int .i64 st, .int .i64 en] 30)).alloc (.cells #[.int .i64 q, .int .i64 p] 23)).alloc (.cells #[.int .i64 0, .int .i64 0, .int .i64 0, .int .i64 0, .bool false, .int .i64 0, .int .i64 0, .int .i64 0] 30)).cell? ⟨w.heap.size, 4, none⟩ = some (.bool dy) := by rw [World.cell?_alloc_lt _ _ _ (by simp <;> omega), World.cell?_alloc_lt _ _ _ (by simp <;> omega), World.cell?_alloc_at _ _ _ _ (by simp)]; rfl
  have f0_4 : (((w.alloc (.cells #[.int .i64 mq, .int .i64 mp, .int .i64 xq, .int .i64 xp, .bool dy, .int .i64 lf, .int .i64 st, .int .i64 en] 30)).alloc (.cells #[.int .i64 q, .int .i64 p] 23)).alloc (.cells #[.int .i64 0, .int .i64 0, .int .i64 0, .int .i64 0, .bool false, .int .i64 0, .int .i64 0, .int .i64 0] 30)).frozen? ⟨w.heap.size, 4, none⟩ = false := by simp only [frozen?_alloc_cells]; exact frozen_beyond _ _ _ (by omega)
  have k0_5 : (((w.alloc (.cells #[.int .i64 mq, .int .i64 mp, .int .i64 xq, .int .i64 xp, .bool dy, .int .i64 lf, .int .i64 st, .int .i64 en] 30)).alloc (.cells #[.int .i64 q, .int .i64 p] 23)).alloc (.cells #[.int .i64 0, .int .i64 0, .int .i64 0, .int .i64 0, .bool false, .int .i64 0, .int .i64 0, .int .i64 0] 30)).cell? ⟨w.heap.size, 5, none⟩ = some (.int .i64 lf) := by rw [World.cell?_alloc_lt _ _ _ (by simp <;> omega), World.cell?_alloc_lt _ _ _ (by simp <;> omega), World.cell?_alloc_at _ _ _ _ (by simp)]; rfl
  have f0_5 : (((w.alloc (.cells #[.int .i64 mq, .int .i64 mp, .int .i64 xq, .int .i64 xp, .bool dy, .int .i64 lf, .int .i64 st, .int .i64 en] 30)).alloc (.cells #[.int .i64 q, .int .i64 p] 23)).alloc (.cells #[.int .i64 0, .int .i64 0, .int .i64 0, .int .i64 0, .bool false, .int .i64 0, .int .i64 0, .int .i64 0] 30)).frozen? ⟨w.heap.size, 5, none⟩ = false := by simp only [frozen?_alloc_cells]; exact frozen_beyond _ _ _ (by omega)
  have k0_6 : (((w.alloc (.cells #[.int .i64 mq, .int .i64 mp, .int .i64 xq, .int .i64 xp, .bool dy, .int .i64 lf, .int .i64 st, .int .i64 en] 30)).alloc (.cells #[.int .i64 q, .int .i64 p] 23)).alloc (.cells #[.int .i64 0, .int .i64 0, .int .i64 0, .int .i64 0, .bool false, .int .i64 0, .int .i64 0, .int .i64 0] 30)).cell? ⟨w.heap.size, 6, none⟩ = some (.int .i64 st) := by rw [World.cell?_alloc_lt _ _ _ (by simp <;> omega), World.cell?_alloc_lt _ _ _ (by simp <;> omega), World.cell?_alloc_at _ _ _ _ (by simp)]; rfl
  have f0_6 : (((w.alloc (.cells #[.int .i64 mq, .int .i64 mp, .int .i64 xq, .int .i64 xp, .bool dy, .int .i64 lf, .int .i64 st, .int .i64 en] 30)).alloc (.cells #[.int .i64 q, .int .i64 p] 23)).alloc (.cells #[.int .i64 0, .int .i64 0, .int .i64 0, .int .i64 0, .bool false, .int .i64 0, .int .i64 0, .int .i64 0] 30)).frozen? ⟨w.heap.size, 6, none⟩ = false := by simp only [frozen?_alloc_cells]; exact frozen_beyond _ _ _ (by omega)
  have k0_7 : (((w.alloc (.cells #[.int .i64 mq, .int .i64 mp, .int .i64 xq, .int .i64 xp, .bool dy, .int .i64 lf, .int .i64 st, .int .i64 en] 30)).alloc (.cells #[.int .i64 q, .int .i64 p] 23)).alloc (.cells #[.int .i64 0, .int .i64 0, .int .i64 0, .int .i64 0, .bool false, .int .i64 0, .int .i64 0, .int .i64 0] 30)).cell? ⟨w.heap.size, 7, none⟩ = some (.int .i64 en) := by rw [World.cell?_alloc_lt _ _ _ (by simp <;> omega), World.cell?_alloc_lt _ _ _ (by simp <;> omega), World.cell?_alloc_at _ _ _ _ (by simp)]; rfl
  have f0_7 : (((w.alloc (.cells #[.int .i64 mq, .int .i64 mp, .int .i64 xq, .int .i64 xp, .bool dy, .int .i64 lf, .int .i64 st, .int .i64 en] 30)).alloc (.cells #[.int .i64 q, .int .i64 p] 23)).alloc (.cells #[.int .i64 0, .int .i64 0, .int .i64 0, .int .i64 0, .bool false, .int .i64 0, .int .i64 0, .int .i64 0] 30)).frozen? ⟨w.heap.size, 7, none⟩ = false := by simp only [frozen?_alloc_cells]; exact frozen_beyond _ _ _ (by omega)
  have k1_0 : (((w.alloc (.cells #[.int .i64 mq, .int .i64 mp, .int .i64 xq, .int .i64 xp, .bool dy, .int .i64 lf, .int .i64 st, .int .i64 en] 30)).alloc (.cells #[.int .i64 q, .int .i64 p] 23)).alloc (.cells #[.int .i64 0, .int .i64 0, .int .i64 0, .int .i64 0, .bool false, .int .i64 0, .int .i64 0, .int .i64 0] 30)).cell? ⟨w.heap.size + 1, 0, none⟩ = some (.int .i64 q) := by rw [World.cell?_alloc_lt _ _ _ (by simp <;> omega), World.cell?_alloc_at _ _ _ _ (by simp)]; rfl
  have k1_1 : (((w.alloc (.cells #[.int .i64 mq, .int .i64 mp, .int .i64 xq, .int .i64 xp, .bool dy, .int .i64 lf, .int .i64 st, .int .i64 en] 30)).alloc (.cells #[.int .i64 q, .int .i64 p] 23)).alloc (.cells #[.int .i64 0, .int .i64 0, .int .i64 0, .int .i64 0, .bool false, .int .i64 0, .int .i64 0, .int .i64 0] 30)).cell? ⟨w.heap.size + 1, 1, none⟩ = some (.int .i64 p) := by rw [World.cell?_alloc_lt _ _ _ (by simp <;> omega), World.cell?_alloc_at _ _ _ _ (by simp)]; rfl
  have k2_0 : (((w.alloc (.cells #[.int .i64 mq, .int .i64 mp, .int .i64 xq, .int .i64 xp, .bool dy, .int .i64 lf, .int .i64 st, .int .i64 en] 30)).alloc (.cells #[.int .i64 q, .int .i64 p] 23)).alloc (.cells #[.int .i64 0, .int .i64 0, .int .i64 0, .int .i64 0, .bool false, .int .i64 0, .int .i64 0, .int .i64 0] 30)).cell? ⟨w.heap.size + 1 + 1, 0, none⟩ = some (.int .i64 0) := by rw [World.cell?_alloc_at _ _ _ _ (by simp)]; rfl
  have f2_0 : (((w.alloc (.cells #[.int .i64 mq, .int .i64 mp, .int .i64 xq, .int .i64 xp, .bool dy, .int .i64 lf, .int .i64 st, .int .i64 en] 30)).alloc (.cells #[.int .i64 q, .int .i64 p] 23)).alloc (.cells #[.int .i64 0, .int .i64 0, .int .i64 0, .int .i64 0, .bool false, .int .i64 0, .int .i64 0, .int .i64 0] 30)).frozen? ⟨w.heap.size + 1 + 1, 0, none⟩ = false := by simp only [frozen?_alloc_cells]; exact frozen_beyond _ _ _ (by omega)
  have k2_1 : (((w.alloc (.cells #[.int .i64 mq, .int .i64 mp, .int .i64 xq, .int .i64 xp, .bool dy, .int .i64 lf, .int .i64 st, .int .i64 en] 30)).alloc (.cells #[.int .i64 q, .int .i64 p] 23)).alloc (.cells #[.int .i64 0, .int .i64 0, .int .i64 0, .int .i64 0, .bool false, .int .i64 0, .int .i64 0, .int .i64 0] 30)).cell? ⟨w.heap.size + 1 + 1, 1, none⟩ = some (.int .i64 0) := by rw [World.cell?_alloc_at _ _ _ _ (by simp)]; rfl
  have f2_1 : (((w.alloc (.cells #[.int .i64 mq, .int .i64 mp, .int .i64 xq, .int .i64 xp, .bool dy, .int .i64 lf, .int .i64 st, .int .i64 en] 30)).alloc (.cells #[.int .i64 q, .int .i64 p] 23)).alloc (.cells #[.int .i64 0, .int .i64 0, .int .i64 0, .int .i64 0, .bool false, .int .i64 0, .int .i64 0, .int .i64 0] 30)).frozen? ⟨w.heap.size + 1 + 1, 1, none⟩ = false := by simp only [frozen?_alloc_cells]; exact frozen_beyond _ _ _ (by omega)
  have k2_2 : (((w.alloc (.cells #[.int .i64 mq, .int .i64 mp, .int .i64 xq, .int .i64 xp, .bool dy, .int .i64 lf, .int .i64 st, .int .i64 en] 30)).alloc (.cells #[.int .i64 q, .int .i64 p] 23)).alloc (.cells #[.int .i64 0, .int .i64 0, .int .i64 0, .int .i64 0, .bool false, .int .i64 0, .int .i64 0, .int .i64 0] 30)).cell? ⟨w.heap.size + 1 + 1, 2, none⟩ = some (.int .i64 0) := by rw [World.cell?_alloc_at _ _ _ _ (by simp)]; rfl
  have f2_2 : (((w.alloc (.cells #[.int .i64 mq, .int .i64 mp, .int .i64 xq, .int .i64 xp, .bool dy, .int .i64 lf, .int .i64 st, .int .i64 en] 30)).alloc (.cells #[.int .i64 q, .int .i64 p] 23)).alloc (.cells #[.int .i64 0, .int .i64 0, .int .i64 0, .int .i64 0, .bool false, .int .i64 0, .int .i64 0, .int .i64 0] 30)).frozen? ⟨w.heap.size + 1 + 1, 2, none⟩ = false := by simp only [frozen?_alloc_cells]; exact frozen_beyond _ _ _ (by omega)
  have k2_3 : (((w.alloc (.cells #[.int .i64 mq, .int .i64 mp, .int .i64 xq, .int .i64 xp, .bool dy, .int .i64 lf, .int .i64 st, .int .i64 en] 30)).alloc (.cells #[.int .i64 q, .int .i64 p] 23)).alloc (.cells #[.int .i64 0, .int .i64 0, .int .i64 0, .int .i64 0, .bool false, .int .i64 0, .int .i64 0, .int .i64 0] 30)).cell? ⟨w.heap.size + 1 + 1, 3, none⟩ = some (.int .i64 0) := by rw [World.cell?_alloc_at _ _ _ _ (by simp)]; rfl
  have f2_3 : (((w.alloc (.cells #[.int .i64 mq, .int .i64 mp, .int .i64 xq, .int .i64 xp, .bool dy, .int .i64 lf, .int .i64 st, .int .i64 en] 30)).alloc (.cells #[.int .i64 q, .int .i64 p] 23)).alloc (.cells #[.int .i64 0, .int .i64 0, .int .i64 0, .int .i64 0, .bool false, .int .i64 0, .int .i64 0, .int .i64 0] 30)).frozen? ⟨w.heap.size + 1 + 1, 3, none⟩ = false := by simp only [frozen?_alloc_cells]; exact frozen_beyond _ _ _ (by omega)
  have k2_4 : (((w.alloc (.cells #[.int .i64 mq, .int .i64 mp, .int .i64 xq, .int .i64 xp, .bool dy, .int .i64 lf, .int .i64 st, .int .i64 en] 30)).alloc (.cells #[.int .i64 q, .int .i64 p] 23)).alloc (.cells #[.int .i64 0, .int .i64 0, .int .i64 0, .int .i64 0, .bool false, .int .i64 0, .int .i64 0, .int .i64 0] 30)).cell? ⟨w.heap.size + 1 + 1, 4, none⟩ = some (.bool false) := by rw [World.cell?_alloc_at _ _ _ _ (by simp)]; rfl
  have f2_4 : (((w.alloc (.cells #[.int .i64 mq, .int .i64 mp, .int .i64 xq, .int .i64 xp, .bool dy, .int .i64 lf, .int .i64 st, .int .i64 en] 30)).alloc (.cells #[.int .i64 q, .int .i64 p] 23)).alloc (.cells #[.int .i64 0, .int .i64 0, .int .i64 0, .int .i64 0, .bool false, .int .i64 0, .int .i64 0, .int .i64 0] 30)).frozen? ⟨w.heap.size + 1 + 1, 4, none⟩ = false := by simp only [frozen?_alloc_cells]; exact frozen_beyond _ _ _ (by omega)
  have k2_5 : (((w.alloc (.cells #[.int .i64 mq, .int .i64 mp, .int .i64 xq, .int .i64 xp, .bool dy, .int .i64 lf, .int .i64 st, .int .i64 en] 30)).alloc (.cells #[.int .i64 q, .int .i64 p] 23)).alloc (.cells #[.int .i64 0, .int .i64 0, .int .i64 0, .int .i64 0, .bool false, .int .i64 0, .int .i64 0, .int .i64 0] 30)).cell? ⟨w.heap.size + 1 + 1, 5, none⟩ = some (.int .i64 0) := by rw [World.cell?_alloc_at _ _ _ _ (by simp)]; rfl
  have f2_5 : (((w.alloc (.cells #[.int .i64 mq, .int .i64 mp, .int .i64 xq, .int .i64 xp, .bool dy, .int .i64 lf, .int .i64 st, .int .i64 en] 30)).alloc (.cells #[.int .i64 q, .int .i64 p] 23)).alloc (.cells #[.int .i64 0, .int .i64 0, .int .i64 0, .int .i64 0, .bool false, .int .i64 0, .int .i64 0, .int .i64 0] 30)).frozen? ⟨w.heap.size + 1 + 1, 5, none⟩ = false := by simp only [frozen?_alloc_cells]; exact frozen_beyond _ _ _ (by omega)
  have k2_6 : (((w.alloc (.cells #[.int .i64 mq, .int .i64 mp, .int .i64 xq, .int .i64 xp, .bool dy, .int .i64 lf, .int .i64 st, .int .i64 en] 30)).alloc (.cells #[.int .i64 q, .int .i64 p] 23)).alloc (.cells #[.int .i64 0, .int .i64 0, .int .i64 0, .int .i64 0, .bool false, .int .i64 0, .int .i64 0, .int .i64 0] 30)).cell? ⟨w.heap.size + 1 + 1, 6, none⟩ = some (.int .i64 0) := by rw [World.cell?_alloc_at _ _ _ _ (by simp)]; rfl
  have f2_6 : (((w.alloc (.cells #[.int .i64 mq, .int .i64 mp, .int .i64 xq, .int .i64 xp, .bool dy, .int .i64 lf, .int .i64 st, .int .i64 en] 30)).alloc (.cells #[.int .i64 q, .int .i64 p] 23)).alloc (.cells #[.int .i64 0, .int .i64 0, .int .i64 0, .int .i64 0, .bool false, .int .i64 0, .int .i64 0, .int .i64 0] 30)).frozen? ⟨w.heap.size + 1 + 1, 6, none⟩ = false := by simp only [frozen?_alloc_cells]; exact frozen_beyond _ _ _ (by omega)
  have k2_7 : (((w.alloc (.cells #[.int .i64 mq, .int .i64 mp, .int .i64 xq, .int .i64 xp, .bool dy, .int .i64 lf, .int .i64 st, .int .i64 en] 30)).alloc (.cells #[.int .i64 q, .int .i64 p] 23)).alloc (.cells #[.int .i64 0, .int .i64 0, .int .i64 0, .int .i64 0, .bool false, .int .i64 0, .int .i64 0, .int .i64 0] 30)).cell? ⟨w.heap.size + 1 + 1, 7, none⟩ = some (.int .i64 0) := by rw [World.cell?_alloc_at _ _ _ _ (by simp)]; rfl
  have f2_7 : (((w.alloc (.cells #[.int .i64 mq, .int .i64 mp, .int .i64 xq, .int .i64 xp, .bool dy, .int .i64 lf, .int .i64 st, .int .i64 en] 30)).alloc (.cells #[.int .i64 q, .int .i64 p] 23)).alloc (.cells #[.int .i64 0, .int .i64 0, .int .i64 0, .int .i64 0, .bool false, .int .i64 0, .int .i64 0, .int .i64 0] 30)).frozen? ⟨w.heap.size + 1 + 1, 7, none⟩ = false := by simp only [frozen?_alloc_cells]; exact frozen_beyond _ _ _ (by omega)
  have z_ : w.heap.size + 1 + 1 < (((w.alloc (.cells #[.int .i64 mq, .int .i64 mp, .int .i64 xq, .int .i64 xp, .bool dy, .int .i64 lf, .int .i64 st, .int .i64 en] 30)).alloc (.cells #[.int .i64 q, .int .i64 p] 23)).alloc (.cells #[.int .i64 0, .int .i64 0, .int .i64 0, .int .i64 0, .bool false, .int .i64 0, .int .i64 0, .int .i64 0] 30)).heap.size := by simp
  go_enter Tryd.func35, Tryd.ntmps35
  go_wp2_with fail
  refine (rbvalid_ok mq mp xq xp dy lf st en _ h).mono ?_
  rintro e w1 ⟨rfl, hb1⟩
  replace k0_0 := keep hb1 k0_0
  replace k0_1 := keep hb1 k0_1
  replace k0_2 := keep hb1 k0_2
  replace k0_3 := keep hb1 k0_3
  replace k0_4 := keep hb1 k0_4
  replace k0_5 := keep hb1 k0_5
  replace k0_6 := keep hb1 k0_6
  replace k0_7 := keep hb1 k0_7
  replace k1_0 := keep hb1 k1_0
  replace k1_1 := keep hb1 k1_1
  replace k2_0 := keep hb1 k2_0
  replace k2_1 := keep hb1 k2_1
  replace k2_2 := keep hb1 k2_2
  replace k2_3 := keep hb1 k2_3
  replace k2_4 := keep hb1 k2_4
  replace k2_5 := keep hb1 k2_5
  replace k2_6 := keep hb1 k2_6
  replace k2_7 := keep hb1 k2_7
  replace f0_0 := keepf hb1 (by omega) f0_0
  replace f0_1 := keepf hb1 (by omega) f0_1
  replace f0_2 := keepf hb1 (by omega) f0_2
  replace f0_3 := keepf hb1 (by omega) f0_3
  replace f0_4 := keepf hb1 (by omega) f0_4
  replace f0_5 := keepf hb1 (by omega) f0_5
  replace f0_6 := keepf hb1 (by omega) f0_6
  replace f0_7 := keepf hb1 (by omega) f0_7
  replace f2_0 := keepf hb1 (by omega) f2_0
  replace f2_1 := keepf hb1 (by omega) f2_1
  replace f2_2 := keepf hb1 (by omega) f2_2
  replace f2_3 := keepf hb1 (by omega) f2_3
  replace f2_4 := keepf hb1 (by omega) f2_4
  replace f2_5 := keepf hb1 (by omega) f2_5
  replace f2_6 := keepf hb1 (by omega) f2_6
  replace f2_7 := keepf hb1 (by omega) f2_7
  replace z_ := Nat.lt_of_lt_of_le z_ hb1.size
  replace HB := below_call HB (Nat.le_refl _) hb1
  clear hb1
  go_wp2_with fail
  refine (rvalid_bad q p _ hr).mono ?_
  rintro e w2 ⟨rfl, hb2⟩
  replace k0_0 := keep hb2 k0_0
  replace k0_1 := keep hb2 k0_1
  replace k0_2 := keep hb2 k0_2
  replace k0_3 := keep hb2 k0_3
  replace k0_4 := keep hb2 k0_4
  replace k0_5 := keep hb2 k0_5
  replace k0_6 := keep hb2 k0_6
  replace k0_7 := keep hb2 k0_7
  replace k1_0 := keep hb2 k1_0
  replace k1_1 := keep hb2 k1_1
  replace k2_0 := keep hb2 k2_0
  replace k2_1 := keep hb2 k2_1
  replace k2_2 := keep hb2 k2_2
  replace k2_3 := keep hb2 k2_3
  replace k2_4 := keep hb2 k2_4
  replace k2_5 := keep hb2 k2_5
  replace k2_6 := keep hb2 k2_6
  replace k2_7 := keep hb2 k2_7
  replace f0_0 := keepf hb2 (by omega) f0_0
  replace f0_1 := keepf hb2 (by omega) f0_1
  replace f0_2 := keepf hb2 (by omega) f0_2
  replace f0_3 := keepf hb2 (by omega) f0_3
  replace f0_4 := keepf hb2 (by omega) f0_4
  replace f0_5 := keepf hb2 (by omega) f0_5
  replace f0_6 := keepf hb2 (by omega) f0_6
  replace f0_7 := keepf hb2 (by omega) f0_7
  replace f2_0 := keepf hb2 (by omega) f2_0
  replace f2_1 := keepf hb2 (by omega) f2_1
  replace f2_2 := keepf hb2 (by omega) f2_2
  replace f2_3 := keepf hb2 (by omega) f2_3
  replace f2_4 := keepf hb2 (by omega) f2_4
  replace f2_5 := keepf hb2 (by omega) f2_5
  replace f2_6 := keepf hb2 (by omega) f2_6
  replace f2_7 := keepf hb2 (by omega) f2_7
  replace z_ := Nat.lt_of_lt_of_le z_ hb2.size
  replace HB := below_call HB (Nat.le_refl _) hb2
  clear hb2
  go_wp2
  refine bodyPost_ret (v := .tuple #[budZ, .int .i64 2]) (by simp [results, Tryd.results35, go_sem, k2_0, k2_1, k2_2, k2_3, k2_4, k2_5, k2_6, k2_7]) rfl ⟨rfl, ?_⟩
  repeat (first | (with_reducible exact HB) | (with_reducible refine below_drewN' ?_ _) | (with_reducible refine Below.drew ?_) | (with_reducible refine Below.setCell ?_ (by simp <;> omega) _))

set_option maxHeartbeats 4000000 in
set_option maxRecDepth 100000 in
theorem rrs_dying (mq mp xq xp : Int) (lf st en q p : Int) (w : World) (h : BV mq mp xq xp lf st en) (hr : Vld q p) :
    Calls Tryd.prog 35 #[bud mq mp xq xp true lf st en, .agg #[.int .i64 q, .int .i64 p]] w fun e w' => e = .returned (.tuple #[budZ, .int .i64 92]) ∧ Below w.heap.size w w' := by
  have HB : Below w.heap.size w (((w.alloc (.cells #[.int .i64 mq, .int .i64 mp, .int .i64 xq, .int .i64 xp, .bool true, .int .i64 lf, .int .i64 st, .int .i64 en] 30)).alloc (.cells #[.int .i64 q, .int .i64 p] 23)).alloc (.cells #[.int .i64 0, .int .i64 0, .int .i64 0, .int .i64 0, .bool false, .int .i64 0, .int .i64 0, .int .i64 0] 30)) := ((((Below.refl _ w).alloc (by simp) _).alloc (by simp) _).alloc (by simp; omega) _)
  have k0_0 : (((w.alloc (.cells #[.int .i64 mq, .int .i64 mp, .int .i64 xq, .int .i64 xp, .bool true, .int .i64 lf, .int .i64 st, .int .i64 en] 30)).alloc (.cells #[.int .i64 q, .int .i64 p] 23)).alloc (.cells #[.int .i64 0, .int .i64 0, .int .i64 0, .int .i64 0, .bool false, .int .i64 0, .int .i64 0, .int .i64 0] 30)).cell? ⟨w.heap.size, 0, none⟩ = some (.int .i64 mq) := by rw [World.cell?_alloc_lt _ _ _ (by simp <;> omega), World.cell?_alloc_lt _ _ _ (by simp <;> omega), World.cell?_alloc_at _ _ _ _ (by simp)]; rfl
  have f0_0 : (((w.alloc (.cells #[.int .i64 mq, .int .i64 mp, .int .i64 xq, .int .i64 xp, .bool true, .int .i64 lf, .int .i64 st, .int .i64 en] 30)).alloc (.cells #[.int .i64 q, .int .i64 p] 23)).alloc (.cells #[.int .i64 0, .int .i64 0, .int .i64 0, .int .i64 0, .bool false, .int .i64 0, .int .i64 0, .int .i64 0] 30)).frozen? ⟨w.heap.size, 0, none⟩ = false := by simp only [frozen?_alloc_cells]; exact frozen_beyond _ _ _ (by omega)
  have k0_1 : (((w.alloc (.cells #[.int .i64 mq, .int .i64 mp, .int .i64 xq, .int .i64 xp, .bool true, .int .i64 lf, .int .i64 st, .int .i64 en] 30)).alloc (.cells #[.int .i64 q, .int .i64 p] 23)).alloc (.cells #[.int .i64 0, .int .i64 0, .int .i64 0, .int .i64 0, .bool false, .int .i64 0, .int .i64 0, .int .i64 0] 30)).cell? ⟨w.heap.size, 1, none⟩ = some (.int .i64 mp) := by rw [World.cell?_alloc_lt _ _ _ (by simp <;> omega), World.cell?_alloc_lt _ _ _ (by simp <;> omega), World.cell?_alloc_at _ _ _ _ (by simp)]; rfl
  have f0_1 : (((w.alloc (.cells #[.int .i64 mq, .int .i64 mp, .int .i64 xq, .int .i64 xp, .bool true, .int .i64 lf, .int .i64 st, .int .i64 en] 30)).alloc (.cells #[.int .i64 q, .int .i64 p] 23)).alloc (.cells #[.int .i64 0, .int .i64 0, .int .i64 0, .int .i64 0, .bool false, .int .i64 0, .int .i64 0, .int .i64 0] 30)).frozen? ⟨w.heap.size, 1, none⟩ = false := by simp only [frozen?_alloc_cells]; exact frozen_beyond _ _ _ (by omega)
  have k0_2 : (((w.alloc (.cells #[.int .i64 mq, .int .i64 mp, .int .i64 xq, .int .i64 xp, .bool true, .int .i64 lf, .int .i64 st, .int .i64 en] 30)).alloc (.cells #[.int .i64 q, .int .i64 p] 23)).alloc (.cells #[.int .i64 0, .int .i64 0, .int .i64 0, .int .i64 0, .bool false, .int .i64 0, .int .i64 0, .int .i64 0] 30)).cell? ⟨w.heap.size, 2, none⟩ = some (.int .i64 xq) := by rw [World.cell?_alloc_lt _ _ _ (by simp <;> omega), World.cell?_alloc_lt _ _ _ (by simp <;> omega), World.cell?_alloc_at _ _ _ _ (by simp)]; rfl
  have f0_2 : (((w.alloc (.cells #[.int .i64 mq, .int .i64 mp, .int .i64 xq, .int .i64 xp, .bool true, .int .i64 lf, .int .i64 st, .int .i64 en] 30)).alloc (.cells #[.int .i64 q, .int .i64 p] 23)).alloc (.cells #[.int .i64 0, .int .i64 0, .int .i64 0, .int .i64 0, .bool false, .int .i64 0, .int .i64 0, .int .i64 0] 30)).frozen? ⟨w.heap.size, 2, none⟩ = false := by simp only [frozen?_alloc_cells]; exact frozen_beyond _ _ _ (by omega)
  have k0_3 : (((w.alloc (.cells #[.int .i64 mq, .int .i64 mp, .int .i64 xq, .int .i64 xp, .bool true, .int .i64 lf, .int .i64 st, .int .i64 en] 30)).alloc (.cells #[.int .i64 q, .int .i64 p] 23)).alloc (.cells #[.int .i64 0, .int .i64 0, .int .i64 0, .int .i64 0, .bool false, .int .i64 0, .int .i64 0, .int .i64 0] 30)).cell? ⟨w.heap.size, 3, none⟩ = some (.int .i64 xp) := by rw [World.cell?_alloc_lt _ _ _ (by simp <;> omega), World.cell?_alloc_lt _ _ _ (by simp <;> omega), World.cell?_alloc_at _ _ _ _ (by simp)]; rfl
  have f0_3 : (((w.alloc (.cells #[.int .i64 mq, .int .i64 mp, .int .i64 xq, .int .i64 xp, .bool true, .int .i64 lf, .int .i64 st, .int .i64 en] 30)).alloc (.cells #[.int .i64 q, .int .i64 p] 23)).alloc (.cells #[.int .i64 0, .int .i64 0, .int .i64 0, .int .i64 0, .bool false, .int .i64 0, .int .i64 0, .int .i64 0] 30)).frozen? ⟨w.heap.size, 3, none⟩ = false := by simp only [frozen?_alloc_cells]; exact frozen_beyond _ _ _ (by omega)
  have k0_4 : (((w.alloc (.cells #[.int .i64 mq, .int .i64 mp, .int .i64 xq, .int .i64 xp, .bool true, .int .i64 lf, .int .i64 st, .int .i64 en] 30)).alloc (.cells #[.int .i64 q, .int .i64 p] 23)).alloc (.cells #[.int .i64 0, .int .i64 0, .int .i64 0, .int .i64 0, .bool false, .int .i64 0, .int .i64 0, .int .i64 0] 30)).cell? ⟨w.heap.size, 4, none⟩ = some (.bool true) := by rw [World.cell?_alloc_lt _ _ _ (by simp <;> omega), World.cell?_alloc_lt _ _ _ (by simp <;> omega), World.cell?_alloc_at _ _ _ _ (by simp)]; rfl
  have f0_4 : (((w.alloc (.cells #[.int .i64 mq, .int .i64 mp, .int .i64 xq, .int .i64 xp, .bool true, .int .i64 lf, .int .i64 st, .int .i64 en] 30)).alloc (.cells #[.int .i64 q, .int .i64 p] 23)).alloc (.cells #[.int .i64 0, .int .i64 0, .int .i64 0, .int .i64 0, .bool false, .int .i64 0, .int .i64 0, .int .i64 0] 30)).frozen? ⟨w.heap.size, 4, none⟩ = false := by simp only [frozen?_alloc_cells]; exact frozen_beyond _ _ _ (by omega)
  have k0_5 : (((w.alloc (.cells #[.int .i64 mq, .int .i64 mp, .int .i64 xq, .int .i64 xp, .bool true, .int .i64 lf, .int .i64 st, .int .i64 en] 30)).alloc (.cells #[.int .i64 q, .int .i64 p] 23)).alloc (.cells #[.int .i64 0, .int .i64 0, .int .i64 0, .int .i64 0, .bool false, .int .i64 0, .int .i64 0, .int .i64 0] 30)).cell? ⟨w.heap.size, 5, none⟩ = some (.int .i64 lf) := by rw [World.cell?_alloc_lt _ _ _ (by simp <;> omega), World.cell?_alloc_lt _ _ _ (by simp <;> omega), World.cell?_alloc_at _ _ _ _ (by simp)]; rfl
  have f0_5 : (((w.alloc (.cells #[.int .i64 mq, .int .i64 mp, .int .i64 xq, .int .i64 xp, .bool true, .int .i64 lf, .int .i64 st, .int .i64 en] 30)).alloc (.cells #[.int .i64 q, .int .i64 p] 23)).alloc (.cells #[.int .i64 0, .int .i64 0, .int .i64 0, .int .i64 0, .bool false, .int .i64 0, .int .i64 0, .int .i64 0] 30)).frozen? ⟨w.heap.size, 5, none⟩ = false := by simp only [frozen?_alloc_cells]; exact frozen_beyond _ _ _ (by omega)
  have k0_6 : (((w.alloc (.cells #[.int .i64 mq, .int .i64 mp, .int .i64 xq, .int .i64 xp, .bool true, .int .i64 lf, .int .i64 st, .int .i64 en] 30)).alloc (.cells #[.int .i64 q, .int .i64 p] 23)).alloc (.cells #[.int .i64 0, .int .i64 0, .int .i64 0, .int .i64 0, .bool false, .int .i64 0, .int .i64 0, .int .i64 0] 30)).cell? ⟨w.heap.size, 6, none⟩ = some (.int .i64 st) := by rw [World.cell?_alloc_lt _ _ _ (by simp <;> omega), World.cell?_alloc_lt _ _ _ (by simp <;> omega), World.cell?_alloc_at _ _ _ _ (by simp)]; rfl
  have f0_6 : (((w.alloc (.cells #[.int .i64 mq, .int .i64 mp, .int .i64 xq, .int .i64 xp, .bool true, .int .i64 lf, .int .i64 st, .int .i64 en] 30)).alloc (.cells #[.int .i64 q, .int .i64 p] 23)).alloc (.cells #[.int .i64 0, .int .i64 0, .int .i64 0, .int .i64 0, .bool false, .int .i64 0, .int .i64 0, .int .i64 0] 30)).frozen? ⟨w.heap.size, 6, none⟩ = false := by simp only [frozen?_alloc_cells]; exact frozen_beyond _ _ _ (by omega)
  have k0_7 : (((w.alloc (.cells #[.int .i64 mq, .int .i64 mp, .int .i64 xq, .int .i64 xp, .bool true, .int .i64 lf, .int .i64 st, .int .i64 en] 30)).alloc (.cells #[.int .i64 q, .int .i64 p] 23)).alloc (.cells #[.int .i64 0, .int .i64 0, .int .i64 0, .int .i64 0, .bool false, .int .i64 0, .int .i64 0, .int .i64 0] 30)).cell? ⟨w.heap.size, 7, none⟩ = some (.int .i64 en) := by rw [World.cell?_alloc_lt _ _ _ (by simp <;> omega), World.cell?_alloc_lt _ _ _ (by simp <;> omega), World.cell?_alloc_at _ _ _ _ (by simp)]; rfl
  have f0_7 : (((w.alloc (.cells #[.int .i64 mq, .int .i64 mp, .int .i64 xq, .int .i64 xp, .bool true, .int .i64 lf, .int .i64 st, .int .i64 en] 30)).alloc (.cells #[.int .i64 q, .int .i64 p] 23)).alloc (.cells #[.int .i64 0, .int .i64 0, .int .i64 0, .int .i64 0, .bool false, .int .i64 0, .int .i64 0, .int .i64 0] 30)).frozen? ⟨w.heap.size, 7, none⟩ = false := by simp only [frozen?_alloc_cells]; exact frozen_beyond _ _ _ (by omega)
  have k1_0 : (((w.alloc (.cells #[.int .i64 mq, .int .i64 mp, .int .i64 xq, .int .i64 xp, .bool true, .int .i64 lf, .int .i64 st, .int .i64 en] 30)).alloc (.cells #[.int .i64 q, .int .i64 p] 23)).alloc (.cells #[.int .i64 0, .int .i64 0, .int .i64 0, .int .i64 0, .bool false, .int .i64 0, .int .i64 0, .int .i64 0] 30)).cell? ⟨w.heap.size + 1, 0, none⟩ = some (.int .i64 q) := by rw [World.cell?_alloc_lt _ _ _ (by simp <;> omega), World.cell?_alloc_at _ _ _ _ (by simp)]; rfl
  have k1_1 : (((w.alloc (.cells #[.int .i64 mq, .int .i64 mp, .int .i64 xq, .int .i64 xp, .bool true, .int .i64 lf, .int .i64 st, .int .i64 en] 30)).alloc (.cells #[.int .i64 q, .int .i64 p] 23)).alloc (.cells #[.int .i64 0, .int .i64 0, .int .i64 0, .int .i64 0, .bool false, .int .i64 0, .int .i64 0, .int .i64 0] 30)).cell? ⟨w.heap.size + 1, 1, none⟩ = some (.int .i64 p) := by rw [World.cell?_alloc_lt _ _ _ (by simp <;> omega), World.cell?_alloc_at _ _ _ _ (by simp)]; rfl
  have k2_0 : (((w.alloc (.cells #[.int .i64 mq, .int .i64 mp, .int .i64 xq, .int .i64 xp, .bool true, .int .i64 lf, .int .i64 st, .int .i64 en] 30)).alloc (.cells #[.int .i64 q, .int .i64 p] 23)).alloc (.cells #[.int .i64 0, .int .i64 0, .int .i64 0, .int .i64 0, .bool false, .int .i64 0, .int .i64 0, .int .i64 0] 30)).cell? ⟨w.heap.size + 1 + 1, 0, none⟩ = some (.int .i64 0) := by rw [World.cell?_alloc_at _ _ _ _ (by simp)]; rfl
  have f2_0 : (((w.alloc (.cells #[.int .i64 mq, .int .i64 mp, .int .i64 xq, .int .i64 xp, .bool true, .int .i64 lf, .int .i64 st, .int .i64 en] 30)).alloc (.cells #[.int .i64 q, .int .i64 p] 23)).alloc (.cells #[.int .i64 0, .int .i64 0, .int .i64 0, .int .i64 0, .bool false, .int .i64 0, .int .i64 0, .int .i64 0] 30)).frozen? ⟨w.heap.size + 1 + 1, 0, none⟩ = false := by simp only [frozen?_alloc_cells]; exact frozen_beyond _ _ _ (by omega)
  have k2_1 : (((w.alloc (.cells #[.int .i64 mq, .int .i64 mp, .int .i64 xq, .int .i64 xp, .bool true, .int .i64 lf, .int .i64 st, .int .i64 en] 30)).alloc (.cells #[.int .i64 q, .int .i64 p] 23)).alloc (.cells #[.int .i64 0, .int .i64 0, .int .i64 0, .int .i64 0, .bool false, .int .i64 0, .int .i64 0, .int .i64 0] 30)).cell? ⟨w.heap.size + 1 + 1, 1, none⟩ = some (.int .i64 0) := by rw [World.cell?_alloc_at _ _ _ _ (by simp)]; rfl
  have f2_1 : (((w.alloc (.cells #[.int .i64 mq, .int .i64 mp, .int .i64 xq, .int .i64 xp, .bool true, .int .i64 lf, .int .i64 st, .int .i64 en] 30)).alloc (.cells #[.int .i64 q, .int .i64 p] 23)).alloc (.cells #[.int .i64 0, .int .i64 0, .int .i64 0, .int .i64 0, .bool false, .int .i64 0, .int .i64 0, .int .i64 0] 30)).frozen? ⟨w.heap.size + 1 + 1, 1, none⟩ = false := by simp only [frozen?_alloc_cells]; exact frozen_beyond _ _ _ (by omega)
  have k2_2 : (((w.alloc (.cells #[.int .i64 mq, .int .i64 mp, .int .i64 xq, .int .i64 xp, .bool true, .int .i64 lf, .int .i64 st, .int .i64 en] 30)).alloc (.cells #[.int .i64 q, .int .i64 p] 23)).alloc (.cells #[.int .i64 0, .int .i64 0, .int .i64 0, .int .i64 0, .bool false, .int .i64 0, .int .i64 0, .int .i64 0] 30)).cell? ⟨w.heap.size + 1 + 1, 2, none⟩ = some (.int .i64 0) := by rw [World.cell?_alloc_at _ _ _ _ (by simp)]; rfl
  have f2_2 : (((w.alloc (.cells #[.int .i64 mq, .int .i64 mp, .int .i64 xq, .int .i64 xp, .bool true, .int .i64 lf, .int .i64 st, .int .i64 en] 30)).alloc (.cells #[.int .i64 q, .int .i64 p] 23)).alloc (.cells #[.int .i64 0, .int .i64 0, .int .i64 0, .int .i64 0, .bool false, .int .i64 0, .int .i64 0, .int .i64 0] 30)).frozen? ⟨w.heap.size + 1 + 1, 2, none⟩ = false := by simp only [frozen?_alloc_cells]; exact frozen_beyond _ _ _ (by omega)
  have k2_3 : (((w.alloc (.cells #[.int .i64 mq, .int .i64 mp, .int .i64 xq, .int .i64 xp, .bool true, .int .i64 lf, .int .i64 st, .int .i64 en] 30)).alloc (.cells #[.int .i64 q, .int .i64 p] 23)).alloc (.cells #[.int .i64 0, .int .i64 0, .int .i64 0, .int .i64 0, .bool false, .int .i64 0, .int .i64 0, .int .i64 0] 30)).cell? ⟨w.heap.size + 1 + 1, 3, none⟩ = some (.int .i64 0) := by rw [World.cell?_alloc_at _ _ _ _ (by simp)]; rfl
  have f2_3 : (((w.alloc (.cells #[.int .i64 mq, .int .i64 mp, .int .i64 xq, .int .i64 xp, .bool true, .int .i64 lf, .int .i64 st, .int .i64 en] 30)).alloc (.cells #[.int .i64 q, .int .i64 p] 23)).alloc (.cells #[.int .i64 0, .int .i64 0, .int .i64 0, .int .i64 0, .bool false, .int .i64 0, .int .i64 0, .int .i64 0] 30)).frozen? ⟨w.heap.size + 1 + 1, 3, none⟩ = false := by simp only [frozen?_alloc_cells]; exact frozen_beyond _ _ _ (by omega)
  have k2_4 : (((w.alloc (.cells #[.int .i64 mq, .int .i64 mp, .int .i64 xq, .int .i64 xp, .bool true, .int .i64 lf, .int .i64 st, .int .i64 en] 30)).alloc (.cells #[.int .i64 q, .int .i64 p] 23)).alloc (.cells #[.int .i64 0, .int .i64 0, .int .i64 0, .int .i64 0, .bool false, .int .i64 0, .int .i64 0, .int .i64 0] 30)).cell? ⟨w.heap.size + 1 + 1, 4, none⟩ = some (.bool false) := by rw [World.cell?_alloc_at _ _ _ _ (by simp)]; rfl
  have f2_4 : (((w.alloc (.cells #[.int .i64 mq, .int .i64 mp, .int .i64 xq, .int .i64 xp, .bool true, .int .i64 lf, .int .i64 st, .int .i64 en] 30)).alloc (.cells #[.int .i64 q, .int .i64 p] 23)).alloc (.cells #[.int .i64 0, .int .i64 0, .int .i64 0, .int .i64 0, .bool false, .int .i64 0, .int .i64 0, .int .i64 0] 30)).frozen? ⟨w.heap.size + 1 + 1, 4, none⟩ = false := by simp only [frozen?_alloc_cells]; exact frozen_beyond _ _ _ (by omega)
  have k2_5 : (((w.alloc (.cells #[.int .i64 mq, .int .i64 mp, .int .i64 xq, .int .i64 xp, .bool true, .int .i64 lf, .int .i64 st, .int .i64 en] 30)).alloc (.cells #[.int .i64 q, .int .i64 p] 23)).alloc (.cells #[.int .i64 0, .int .i64 0, .int .i64 0, .int .i64 0, .bool false, .int .i64 0, .int .i64 0, .int .i64 0] 30)).cell? ⟨w.heap.size + 1 + 1, 5, none⟩ = some (.int .i64 0) := by rw [World.cell?_alloc_at _ _ _ _ (by simp)]; rfl
  have f2_5 : (((w.alloc (.cells #[.int .i64 mq, .int .i64 mp, .int .i64 xq, .int .i64 xp, .bool true, .int .i64 lf, .int .i64 st, .int .i64 en] 30)).alloc (.cells #[.int .i64 q, .int .i64 p] 23)).alloc (.cells #[.int .i64 0, .int .i64 0, .int .i64 0, .int .i64 0, .bool false, .int .i64 0, .int .i64 0, .int .i64 0] 30)).frozen? ⟨w.heap.size + 1 + 1, 5, none⟩ = false := by simp only [frozen?_alloc_cells]; exact frozen_beyond _ _ _ (by omega)
  have k2_6 : (((w.alloc (.cells #[.int .i64 mq, .int .i64 mp, .int .i64 xq, .int .i64 xp, .bool true, .int .i64 lf, .int .i64 st, .int .i64 en] 30)).alloc (.cells #[.int .i64 q, .int .i64 p] 23)).alloc (.cells #[.int .i64 0, .int .i64 0, .int .i64 0, .int .i64 0, .bool false, .int .i64 0, .int .i64 0, .int .i64 0] 30)).cell? ⟨w.heap.size + 1 + 1, 6, none⟩ = some (.int .i64 0) := by rw [World.cell?_alloc_at _ _ _ _ (by simp)]; rfl
  have f2_6 : (((w.alloc (.cells #[.int .i64 mq, .int .i64 mp, .int .i64 xq, .int .i64 xp, .bool true, .int .i64 lf, .int .i64 st, .int .i64 en] 30)).alloc (.cells #[.int .i64 q, .int .i64 p] 23)).alloc (.cells #[.int .i64 0, .int .i64 0, .int .i64 0, .int .i64 0, .bool false, .int .i64 0, .int .i64 0, .int .i64 0] 30)).frozen? ⟨w.heap.size + 1 + 1, 6, none⟩ = false := by simp only [frozen?_alloc_cells]; exact frozen_beyond _ _ _ (by omega)
  have k2_7 : (((w.alloc (.cells #[.int .i64 mq, .int .i64 mp, .int .i64 xq, .int .i64 xp, .bool true, .int .i64 lf, .int .i64 st, .int .i64 en] 30)).alloc (.cells #[.int .i64 q, .int .i64 p] 23)).alloc (.cells #[.int .i64 0, .int .i64 0, .int .i64 0, .int .i64 0, .bool false, .int .i64 0, .int .i64 0, .int .i64 0] 30)).cell? ⟨w.heap.size + 1 + 1, 7, none⟩ = some (.int .i64 0) := by rw [World.cell?_alloc_at _ _ _ _ (by simp)]; rfl
  have f2_7 : (((w.alloc (.cells #[.int .i64 mq, .int .i64 mp, .int .i64 xq, .int .i64 xp, .bool true, .int .i64 lf, .int .i64 st, .int .i64 en] 30)).alloc (.cells #[.int .i64 q, .int .i64 p] 23)).alloc (.cells #[.int .i64 0, .int .i64 0, .int .i64 0, .int .i64 0, .bool false, .int .i64 0, .int .i64 0, .int .i64 0] 30)).frozen? ⟨w.heap.size + 1 + 1, 7, none⟩ = false := by simp only [frozen?_alloc_cells]; exact frozen_beyond _ _ _ (by omega)
  have z_ : w.heap.size + 1 + 1 < (((w.alloc (.cells #[.int .i64 mq, .int .i64 mp, .int .i64 xq, .int .i64 xp, .bool true, .int .i64 lf, .int .i64 st, .int .i64 en] 30)).alloc (.cells #[.int .i64 q, .int .i64 p] 23)).alloc (.cells #[.int .i64 0, .int .i64 0, .int .i64 0, .int .i64 0, .bool false, .int .i64 0, .int .i64 0, .int .i64 0] 30)).heap.size := by simp
  go_enter Tryd.func35, Tryd.ntmps35
  go_wp2_with fail
  refine (rbvalid_ok mq mp xq xp true lf st en _ h).mono ?_
  rintro e w1 ⟨rfl, hb1⟩
  replace k0_0 := keep hb1 k0_0
  replace k0_1 := keep hb1 k0_1
  replace k0_2 := keep hb1 k0_2
  replace k0_3 := keep hb1 k0_3
  replace k0_4 := keep hb1 k0_4
  replace k0_5 := keep hb1 k0_5
  replace k0_6 := keep hb1 k0_6
  replace k0_7 := keep hb1 k0_7
  replace k1_0 := keep hb1 k1_0
  replace k1_1 := keep hb1 k1_1
  replace k2_0 := keep hb1 k2_0
  replace k2_1 := keep hb1 k2_1
  replace k2_2 := keep hb1 k2_2
  replace k2_3 := keep hb1 k2_3
  replace k2_4 := keep hb1 k2_4
  replace k2_5 := keep hb1 k2_5
  replace k2_6 := keep hb1 k2_6
  replace k2_7 := keep hb1 k2_7
  replace f0_0 := keepf hb1 (by omega) f0_0
  replace f0_1 := keepf hb1 (by omega) f0_1
  replace f0_2 := keepf hb1 (by omega) f0_2
  replace f0_3 := keepf hb1 (by omega) f0_3
  replace f0_4 := keepf hb1 (by omega) f0_4
  replace f0_5 := keepf hb1 (by omega) f0_5
  replace f0_6 := keepf hb1 (by omega) f0_6
  replace f0_7 := keepf hb1 (by omega) f0_7
  replace f2_0 := keepf hb1 (by omega) f2_0
  replace f2_1 := keepf hb1 (by omega) f2_1
  replace f2_2 := keepf hb1 (by omega) f2_2
  replace f2_3 := keepf hb1 (by omega) f2_3
  replace f2_4 := keepf hb1 (by omega) f2_4
  replace f2_5 := keepf hb1 (by omega) f2_5
  replace f2_6 := keepf hb1 (by omega) f2_6
  replace f2_7 := keepf hb1 (by omega) f2_7
  replace z_ := Nat.lt_of_lt_of_le z_ hb1.size
  replace HB := below_call HB (Nat.le_refl _) hb1
  clear hb1
  go_wp2_with fail
  refine (rvalid_ok q p _ hr).mono ?_
  rintro e w2 ⟨rfl, hb2⟩
  replace k0_0 := keep hb2 k0_0
  replace k0_1 := keep hb2 k0_1
  replace k0_2 := keep hb2 k0_2
  replace k0_3 := keep hb2 k0_3
  replace k0_4 := keep hb2 k0_4
  replace k0_5 := keep hb2 k0_5
  replace k0_6 := keep hb2 k0_6
  replace k0_7 := keep hb2 k0_7
  replace k1_0 := keep hb2 k1_0
  replace k1_1 := keep hb2 k1_1
  replace k2_0 := keep hb2 k2_0
  replace k2_1 := keep hb2 k2_1
  replace k2_2 := keep hb2 k2_2
  replace k2_3 := keep hb2 k2_3
  replace k2_4 := keep hb2 k2_4
  replace k2_5 := keep hb2 k2_5
  replace k2_6 := keep hb2 k2_6
  replace k2_7 := keep hb2 k2_7
  replace f0_0 := keepf hb2 (by omega) f0_0
  replace f0_1 := keepf hb2 (by omega) f0_1
  replace f0_2 := keepf hb2 (by omega) f0_2
  replace f0_3 := keepf hb2 (by omega) f0_3
  replace f0_4 := keepf hb2 (by omega) f0_4
  replace f0_5 := keepf hb2 (by omega) f0_5
  replace f0_6 := keepf hb2 (by omega) f0_6
  replace f0_7 := keepf hb2 (by omega) f0_7
  replace f2_0 := keepf hb2 (by omega) f2_0
  replace f2_1 := keepf hb2 (by omega) f2_1
  replace f2_2 := keepf hb2 (by omega) f2_2
  replace f2_3 := keepf hb2 (by omega) f2_3
  replace f2_4 := keepf hb2 (by omega) f2_4
  replace f2_5 := keepf hb2 (by omega) f2_5
  replace f2_6 := keepf hb2 (by omega) f2_6
  replace f2_7 := keepf hb2 (by omega) f2_7
  replace z_ := Nat.lt_of_lt_of_le z_ hb2.size
  replace HB := below_call HB (Nat.le_refl _) hb2
  clear hb2
  go_wp2
  refine bodyPost_ret (v := .tuple #[budZ, .int .i64 92]) (by simp [results, Tryd.results35, go_sem, k2_0, k2_1, k2_2, k2_3, k2_4, k2_5, k2_6, k2_7]) rfl ⟨rfl, ?_⟩
  repeat (first | (with_reducible exact HB) | (with_reducible refine below_drewN' ?_ _) | (with_reducible refine Below.drew ?_) | (with_reducible refine Below.setCell ?_ (by simp <;> omega) _))

set_option maxHeartbeats 4000000 in
set_option maxRecDepth 100000 in
theorem rrs_new (mq mp xq xp : Int) (lf st en q p : Int) (w : World) (h : BV mq mp xq xp lf st en) (hr : Vld q p) (hne : (q == mq && p == mp) = false) :
    Calls Tryd.prog 35 #[bud mq mp xq xp false lf st en, .agg #[.int .i64 q, .int .i64 p]] w fun e w' => e = .returned (.tuple #[bud mq mp q p false lf st en, .int .i64 0]) ∧ Below w.heap.size w w' := by
  have HB : Below w.heap.size w (((w.alloc (.cells #[.int .i64 mq, .int .i64 mp, .int .i64 xq, .int .i64 xp, .bool false, .int .i64 lf, .int .i64 st, .int .i64 en] 30)).alloc (.cells #[.int .i64 q, .int .i64 p] 23)).alloc (.cells #[.int .i64 0, .int .i64 0, .int .i64 0, .int .i64 0, .bool false, .int .i64 0, .int .i64 0, .int .i64 0] 30)) := ((((Below.refl _ w).alloc (by simp) _).alloc (by simp) _).alloc (by simp; omega) _)
  have k0_0 : (((w.alloc (.cells #[.int .i64 mq, .int .i64 mp, .int .i64 xq, .int .i64 xp, .bool false, .int .i64 lf, .int .i64 st, .int .i64 en] 30)).alloc (.cells #[.int .i64 q, .int .i64 p] 23)).alloc (.cells #[.int .i64 0, .int .i64 0, .int .i64 0, .int .i64 0, .bool false, .int .i64 0, .int .i64 0, .int .i64 0] 30)).cell? ⟨w.heap.size, 0, none⟩ = some (.int .i64 mq) := by rw [World.cell?_alloc_lt _ _ _ (by simp <;> omega), World.cell?_alloc_lt _ _ _ (by simp <;> omega), World.cell?_alloc_at _ _ _ _ (by simp)]; rfl
  have f0_0 : (((w.alloc (.cells #[.int .i64 mq, .int .i64 mp, .int .i64 xq, .int .i64 xp, .bool false, .int .i64 lf, .int .i64 st, .int .i64 en] 30)).alloc (.cells #[.int .i64 q, .int .i64 p] 23)).alloc (.cells #[.int .i64 0, .int .i64 0, .int .i64 0, .int .i64 0, .bool false, .int .i64 0, .int .i64 0, .int .i64 0] 30)).frozen? ⟨w.heap.size, 0, none⟩ = false := by simp only [frozen?_alloc_cells]; exact frozen_beyond _ _ _ (by omega)
  have k0_1 : (((w.alloc (.cells #[.int .i64 mq, .int .i64 mp, .int .i64 xq, .int .i64 xp, .bool false, .int .i64 lf, .int .i64 st, .int .i64 en] 30)).alloc (.cells #[.int .i64 q, .int .i64 p] 23)).alloc (.cells #[.int .i64 0, .int .i64 0, .int .i64 0, .int .i64 0, .bool false, .int .i64 0, .int .i64 0, .int .i64 0] 30)).cell? ⟨w.heap.size, 1, none⟩ = some (.int .i64 mp) := by rw [World.cell?_alloc_lt _ _ _ (by simp <;> omega), World.cell?_alloc_lt _ _ _ (by simp <;> omega), World.cell?_alloc_at _ _ _ _ (by simp)]; rfl
  have f0_1 : (((w.alloc (.cells #[.int .i64 mq, .int .i64 mp, .int .i64 xq, .int .i64 xp, .bool false, .int .i64 lf, .int .i64 st, .int .i64 en] 30)).alloc (.cells #[.int .i64 q, .int .i64 p] 23)).alloc (.cells #[.int .i64 0, .int .i64 0, .int .i64 0, .int .i64 0, .bool false, .int .i64 0, .int .i64 0, .int .i64 0] 30)).frozen? ⟨w.heap.size, 1, none⟩ = false := by simp only [frozen?_alloc_cells]; exact frozen_beyond _ _ _ (by omega)
  have k0_2 : (((w.alloc (.cells #[.int .i64 mq, .int .i64 mp, .int .i64 xq, .int .i64 xp, .bool false, .int .i64 lf, .int .i64 st, .int .i64 en] 30)).alloc (.cells #[.int .i64 q, .int .i64 p] 23)).alloc (.cells #[.int .i64 0, .int .i64 0, .int .i64 0, .int .i64 0, .bool false, .int .i64 0, .int .i64 0, .int .i64 0] 30)).cell? ⟨w.heap.size, 2, none⟩ = some (.int .i64 xq) := by rw [World.cell?_alloc_lt _ _ _ (by simp <;> omega), World.cell?_alloc_lt _ _ _ (by simp <;> omega), World.cell?_alloc_at _ _ _ _ (by simp)]; rfl
  have f0_2 : (((w.alloc (.cells #[.int .i64 mq, .int .i64 mp, .int .i64 xq, .int .i64 xp, .bool false, .int .i64 lf, .int .i64 st, .int .i64 en] 30)).alloc (.cells #[.int .i64 q, .int .i64 p] 23)).alloc (.cells #[.int .i64 0, .int .i64 0, .int .i64 0, .int .i64 0, .bool false, .int .i64 0, .int .i64 0, .int .i64 0] 30)).frozen? ⟨w.heap.size, 2, none⟩ = false := by simp only [frozen?_alloc_cells]; exact frozen_beyond _ _ _ (by omega)
  have k0_3 : (((w.alloc (.cells #[.int .i64 mq, .int .i64 mp, .int .i64 xq, .int .i64 xp, .bool false, .int .i64 lf, .int .i64 st, .int .i64 en] 30)).alloc (.cells #[.int .i64 q, .int .i64 p] 23)).alloc (.cells #[.int .i64 0, .int .i64 0, .int .i64 0, .int .i64 0, .bool false, .int .i64 0, .int .i64 0, .int .i64 0] 30)).cell? ⟨w.heap.size, 3, none⟩ = some (.int .i64 xp) := by rw [World.cell?_alloc_lt _ _ _ (by simp <;> omega), World.cell?_alloc_lt _ _ _ (by simp <;> omega), World.cell?_alloc_at _ _ _ _ (by simp)]; rfl
  have f0_3 : (((w.alloc (.cells #[.int .i64 mq, .int .i64 mp, .int .i64 xq, .int .i64 xp, .bool false, .int .i64 lf, .int .i64 st, .int .i64 en] 30)).alloc (.cells #[.int .i64 q, .int .i64 p] 23)).alloc (.cells #[.int .i64 0, .int .i64 0, .int .i64 0, .int .i64 0, .bool false, .int .i64 0, .int .i64 0, .int .i64 0] 30)).frozen? ⟨w.heap.size, 3, none⟩ = false := by simp only [frozen?_alloc_cells]; exact frozen_beyond _ _ _ (by omega)
  have k0_4 : (((w.alloc (.cells #[.int .i64 mq, .int .i64 mp, .int .i64 xq, .int .i64 xp, .bool false, .int .i64 lf, .int .i64 st, .int .i64 en] 30)).alloc (.cells #[.int .i64 q, .int .i64 p] 23)).alloc (.cells #[.int .i64 0, .int .i64 0, .int .i64 0, .int .i64 0, .bool false, .int .i64 0, .int .i64 0, .int .i64 0] 30)).cell? ⟨w.heap.size, 4, none⟩ = some (.bool false) := by rw [World.cell?_alloc_lt _ _ _ (by simp <;> omega), World.cell?_alloc_lt _ _ _ (by simp <;> omega), World.cell?_alloc_at _ _ _ _ (by simp)]; rfl
  have f0_4 : (((w.alloc (.cells #[.int .i64 mq, .int .i64 mp, .int .i64 xq, .int .i64 xp, .bool false, .int .i64 lf, .int .i64 st, .int .i64 en] 30)).alloc (.cells #[.int .i64 q, .int .i64 p] 23)).alloc (.cells #[.int .i64 0, .int .i64 0, .int .i64 0, .int .i64 0, .bool false, .int .i64 0, .int .i64 0, .int .i64 0] 30)).frozen? ⟨w.heap.size, 4, none⟩ = false := by simp only [frozen?_alloc_cells]; exact frozen_beyond _ _ _ (by omega)
  have k0_5 : (((w.alloc (.cells #[.int .i64 mq, .int .i64 mp, .int .i64 xq, .int .i64 xp, .bool false, .int .i64 lf, .int .i64 st, .int .i64 en] 30)).alloc (.cells #[.int .i64 q, .int .i64 p] 23)).alloc (.cells #[.int .i64 0, .int .i64 0, .int .i64 0, .int .i64 0, .bool false, .int .i64 0, .int .i64 0, .int .i64 0] 30)).cell? ⟨w.heap.size, 5, none⟩ = some (.int .i64 lf) := by rw [World.cell?_alloc_lt _ _ _ (by simp <;> omega), World.cell?_alloc_lt _ _ _ (by simp <;> omega), World.cell?_alloc_at _ _ _ _ (by simp)]; rfl
  have f0_5 : (((w.alloc (.cells #[.int .i64 mq, .int .i64 mp, .int .i64 xq, .int .i64 xp, .bool false, .int .i64 lf, .int .i64 st, .int .i64 en] 30)).alloc (.cells #[.int .i64 q, .int .i64 p] 23)).alloc (.cells #[.int .i64 0, .int .i64 0, .int .i64 0, .int .i64 0, .bool false, .int .i64 0, .int .i64 0, .int .i64 0] 30)).frozen? ⟨w.heap.size, 5, none⟩ = false := by simp only [frozen?_alloc_cells]; exact frozen_beyond _ _ _ (by omega)
  have k0_6 : (((w.alloc (.cells #[.int .i64 mq, .int .i64 mp, .int .i64 xq, .int .i64 xp, .bool false, .int .i64 lf, .int .i64 st, .int .i64 en] 30)).alloc (.cells #[.int .i64 q, .int .i64 p] 23)).alloc (.cells #[.int .i64 0, .int .i64 0, .int .i64 0, .int .i64 0, .bool false, .int .i64 0, .int .i64 0, .int .i64 0] 30)).cell? ⟨w.heap.size, 6, none⟩ = some (.int .i64 st) := by rw [World.cell?_alloc_lt _ _ _ (by simp <;> omega), World.cell?_alloc_lt _ _ _ (by simp <;> omega), World.cell?_alloc_at _ _ _ _ (by simp)]; rfl
  have f0_6 : (((w.alloc (.cells #[.int .i64 mq, .int .i64 mp, .int .i64 xq, .int .i64 xp, .bool false, .int .i64 lf, .int .i64 st, .int .i64 en] 30)).alloc (.cells #[.int .i64 q, .int .i64 p] 23)).alloc (.cells #[.int .i64 0, .int .i64 0, .int .i64 0, .int .i64 0, .bool false, .int .i64 0, .int .i64 0, .int .i64 0] 30)).frozen? ⟨w.heap.size, 6, none⟩ = false := by simp only [frozen?_alloc_cells]; exact frozen_beyond _ _ _ (by omega)
  have k0_7 : (((w.alloc (.cells #[.int .i64 mq, .int .i64 mp, .int .i64 xq, .int .i64 xp, .bool false, .int .i64 lf, .int .i64 st, .int .i64 en] 30)).alloc (.cells #[.int .i64 q, .int .i64 p] 23)).alloc (.cells #[.int .i64 0, .int .i64 0, .int .i64 0, .int .i64 0, .bool false, .int .i64 0, .int .i64 0, .int .i64 0] 30)).cell? ⟨w.heap.size, 7, none⟩ = some (.int .i64 en) := by rw [World.cell?_alloc_lt _ _ _ (by simp <;> omega), World.cell?_alloc_lt _ _ _ (by simp <;> omega), World.cell?_alloc_at _ _ _ _ (by simp)]; rfl
  have f0_7 : (((w.alloc (.cells #[.int .i64 mq, .int .i64 mp, .int .i64 xq, .int .i64 xp, .bool false, .int .i64 lf, .int .i64 st, .int .i64 en] 30)).alloc (.cells #[.int .i64 q, .int .i64 p] 23)).alloc (.cells #[.int .i64 0, .int .i64 0, .int .i64 0, .int .i64 0, .bool false, .int .i64 0, .int .i64 0, .int .i64 0] 30)).frozen? ⟨w.heap.size, 7, none⟩ = false := by simp only [frozen?_alloc_cells]; exact frozen_beyond _ _ _ (by omega)
  have k1_0 : (((w.alloc (.cells #[.int .i64 mq, .int .i64 mp, .int .i64 xq, .int .i64 xp, .bool false, .int .i64 lf, .int .i64 st, .int .i64 en] 30)).alloc (.cells #[.int .i64 q, .int .i64 p] 23)).alloc (.cells #[.int .i64 0, .int .i64 0, .int .i64 0, .int .i64 0, .bool false, .int .i64 0, .int .i64 0, .int .i64 0] 30)).cell? ⟨w.heap.size + 1, 0, none⟩ = some (.int .i64 q) := by rw [World.cell?_alloc_lt _ _ _ (by simp <;> omega), World.cell?_alloc_at _ _ _ _ (by simp)]; rfl
  have k1_1 : (((w.alloc (.cells #[.int .i64 mq, .int .i64 mp, .int .i64 xq, .int .i64 xp, .bool false, .int .i64 lf, .int .i64 st, .int .i64 en] 30)).alloc (.cells #[.int .i64 q, .int .i64 p] 23)).alloc (.cells #[.int .i64 0, .int .i64 0, .int .i64 0, .int .i64 0, .bool false, .int .i64 0, .int .i64 0, .int .i64 0] 30)).cell? ⟨w.heap.size + 1, 1, none⟩ = some (.int .i64 p) := by rw [World.cell?_alloc_lt _ _ _ (by simp <;> omega), World.cell?_alloc_at _ _ _ _ (by simp)]; rfl
  have k2_0 : (((w.alloc (.cells #[.int .i64 mq, .int .i64 mp, .int .i64 xq, .int .i64 xp, .bool false, .int .i64 lf, .int .i64 st, .int .i64 en] 30)).alloc (.cells #[.int .i64 q, .int .i64 p] 23)).alloc (.cells #[.int .i64 0, .int .i64 0, .int .i64 0, .int .i64 0, .bool false, .int .i64 0, .int .i64 0, .int .i64 0] 30)).cell? ⟨w.heap.size + 1 + 1, 0, none⟩ = some (.int .i64 0) := by rw [World.cell?_alloc_at _ _ _ _ (by simp)]; rfl
  have f2_0 : (((w.alloc (.cells #[.int .i64 mq, .int .i64 mp, .int .i64 xq, .int .i64 xp, .bool false, .int .i64 lf, .int .i64 st, .int .i64 en] 30)).alloc (.cells #[.int .i64 q, .int .i64 p] 23)).alloc (.cells #[.int .i64 0, .int .i64 0, .int .i64 0, .int .i64 0, .bool false, .int .i64 0, .int .i64 0, .int .i64 0] 30)).frozen? ⟨w.heap.size + 1 + 1, 0, none⟩ = false := by simp only [frozen?_alloc_cells]; exact frozen_beyond _ _ _ (by omega)
  have k2_1 : (((w.alloc (.cells #[.int .i64 mq, .int .i64 mp, .int .i64 xq, .int .i64 xp, .bool false, .int .i64 lf, .int .i64 st, .int .i64 en] 30)).alloc (.cells #[.int .i64 q, .int .i64 p] 23)).alloc (.cells #[.int .i64 0, .int .i64 0, .int .i64 0, .int .i64 0, .bool false, .int .i64 0, .int .i64 0, .int .i64 0] 30)).cell? ⟨w.heap.size + 1 + 1, 1, none⟩ = some (.int .i64 0) := by rw [World.cell?_alloc_at _ _ _ _ (by simp)]; rfl
  have f2_1 : (((w.alloc (.cells #[.int .i64 mq, .int .i64 mp, .int .i64 xq, .int .i64 xp, .bool false, .int .i64 lf, .int .i64 st, .int .i64 en] 30)).alloc (.cells #[.int .i64 q, .int .i64 p] 23)).alloc (.cells #[.int .i64 0, .int .i64 0, .int .i64 0, .int .i64 0, .bool false, .int .i64 0, .int .i64 0, .int .i64 0] 30)).frozen? ⟨w.heap.size + 1 + 1, 1, none⟩ = false := by simp only [frozen?_alloc_cells]; exact frozen_beyond _ _ _ (by omega)
  have k2_2 : (((w.alloc (.cells #[.int .i64 mq, .int .i64 mp, .int .i64 xq, .int .i64 xp, .bool false, .int .i64 lf, .int .i64 st, .int .i64 en] 30)).alloc (.cells #[.int .i64 q, .int .i64 p] 23)).alloc (.cells #[.int .i64 0, .int .i64 0, .int .i64 0, .int .i64 0, .bool false, .int .i64 0, .int .i64 0, .int .i64 0] 30)).cell? ⟨w.heap.size + 1 + 1, 2, none⟩ = some (.int .i64 0) := by rw [World.cell?_alloc_at _ _ _ _ (by simp)]; rfl
  have f2_2 : (((w.alloc (.cells #[.int .i64 mq, .int .i64 mp, .int .i64 xq, .int .i64 xp, .bool false, .int .i64 lf, .int .i64 st, .int .i64 en] 30)).alloc (.cells #[.int .i64 q, .int .i64 p] 23)).alloc (.cells #[.int .i64 0, .int .i64 0, .int .i64 0, .int .i64 0, .bool false, .int .i64 0, .int .i64 0, .int .i64 0] 30)).frozen? ⟨w.heap.size + 1 + 1, 2, none⟩ = false := by simp only [frozen?_alloc_cells]; exact frozen_beyond _ _ _ (by omega)
  have k2_3 : (((w.alloc (.cells #[.int .i64 mq, .int .i64 mp, .int .i64 xq, .int .i64 xp, .bool false, .int .i64 lf, .int .i64 st, .int .i64 en] 30)).alloc (.cells #[.int .i64 q, .int .i64 p] 23)).alloc (.cells #[.int .i64 0, .int .i64 0, .int .i64 0, .int .i64 0, .bool false, .int .i64 0, .int .i64 0, .int .i64 0] 30)).cell? ⟨w.heap.size + 1 + 1, 3, none⟩ = some (.int .i64 0) := by rw [World.cell?_alloc_at _ _ _ _ (by simp)]; rfl
  have f2_3 : (((w.alloc (.cells #[.int .i64 mq, .int .i64 mp, .int .i64 xq, .int .i64 xp, .bool false, .int .i64 lf, .int .i64 st, .int .i64 en] 30)).alloc (.cells #[.int .i64 q, .int .i64 p] 23)).alloc (.cells #[.int .i64 0, .int .i64 0, .int .i64 0, .int .i64 0, .bool false, .int .i64 0, .int .i64 0, .int .i64 0] 30)).frozen? ⟨w.heap.size + 1 + 1, 3, none⟩ = false := by simp only [frozen?_alloc_cells]; exact frozen_beyond _ _ _ (by omega)
  have k2_4 : (((w.alloc (.cells #[.int .i64 mq, .int .i64 mp, .int .i64 xq, .int .i64 xp, .bool false, .int .i64 lf, .int .i64 st, .int .i64 en] 30)).alloc (.cells #[.int .i64 q, .int .i64 p] 23)).alloc (.cells #[.int .i64 0, .int .i64 0, .int .i64 0, .int .i64 0, .bool false, .int .i64 0, .int .i64 0, .int .i64 0] 30)).cell? ⟨w.heap.size + 1 + 1, 4, none⟩ = some (.bool false) := by rw [World.cell?_alloc_at _ _ _ _ (by simp)]; rfl
  have f2_4 : (((w.alloc (.cells #[.int .i64 mq, .int .i64 mp, .int .i64 xq, .int .i64 xp, .bool false, .int .i64 lf, .int .i64 st, .int .i64 en] 30)).alloc (.cells #[.int .i64 q, .int .i64 p] 23)).alloc (.cells #[.int .i64 0, .int .i64 0, .int .i64 0, .int .i64 0, .bool false, .int .i64 0, .int .i64 0, .int .i64 0] 30)).frozen? ⟨w.heap.size + 1 + 1, 4, none⟩ = false := by simp only [frozen?_alloc_cells]; exact frozen_beyond _ _ _ (by omega)
  have k2_5 : (((w.alloc (.cells #[.int .i64 mq, .int .i64 mp, .int .i64 xq, .int .i64 xp, .bool false, .int .i64 lf, .int .i64 st, .int .i64 en] 30)).alloc (.cells #[.int .i64 q, .int .i64 p] 23)).alloc (.cells #[.int .i64 0, .int .i64 0, .int .i64 0, .int .i64 0, .bool false, .int .i64 0, .int .i64 0, .int .i64 0] 30)).cell? ⟨w.heap.size + 1 + 1, 5, none⟩ = some (.int .i64 0) := by rw [World.cell?_alloc_at _ _ _ _ (by simp)]; rfl
  have f2_5 : (((w.alloc (.cells #[.int .i64 mq, .int .i64 mp, .int .i64 xq, .int .i64 xp, .bool false, .int .i64 lf, .int .i64 st, .int .i64 en] 30)).alloc (.cells #[.int .i64 q, .int .i64 p] 23)).alloc (.cells #[.int .i64 0, .int .i64 0, .int .i64 0, .int .i64 0, .bool false, .int .i64 0, .int .i64 0, .int .i64 0] 30)).frozen? ⟨w.heap.size + 1 + 1, 5, none⟩ = false := by simp only [frozen?_alloc_cells]; exact frozen_beyond _ _ _ (by omega)
  have k2_6 : (((w.alloc (.cells #[.int .i64 mq, .int .i64 mp, .int .i64 xq, .int .i64 xp, .bool false, .int .i64 lf, .int .i64 st, .int .i64 en] 30)).alloc (.cells #[.int .i64 q, .int .i64 p] 23)).alloc (.cells #[.int .i64 0, .int .i64 0, .int .i64 0, .int .i64 0, .bool false, .int .i64 0, .int .i64 0, .int .i64 0] 30)).cell? ⟨w.heap.size + 1 + 1, 6, none⟩ = some (.int .i64 0) := by rw [World.cell?_alloc_at _ _ _ _ (by simp)]; rfl
  have f2_6 : (((w.alloc (.cells #[.int .i64 mq, .int .i64 mp, .int .i64 xq, .int .i64 xp, .bool false, .int .i64 lf, .int .i64 st, .int .i64 en] 30)).alloc (.cells #[.int .i64 q, .int .i64 p] 23)).alloc (.cells #[.int .i64 0, .int .i64 0, .int .i64 0, .int .i64 0, .bool false, .int .i64 0, .int .i64 0, .int .i64 0] 30)).frozen? ⟨w.heap.size + 1 + 1, 6, none⟩ = false := by simp only [frozen?_alloc_cells]; exact frozen_beyond _ _ _ (by omega)
  have k2_7 : (((w.alloc (.cells #[.int .i64 mq, .int .i64 mp, .int .i64 xq, .int .i64 xp, .bool false, .int .i64 lf, .int .i64 st, .int .i64 en] 30)).alloc (.cells #[.int .i64 q, .int .i64 p] 23)).alloc (.cells #[.int .i64 0, .int .i64 0, .int .i64 0, .int .i64 0, .bool false, .int .i64 0, .int .i64 0, .int .i64 0] 30)).cell? ⟨w.heap.size + 1 + 1, 7, none⟩ = some (.int .i64 0) := by rw [World.cell?_alloc_at _ _ _ _ (by simp)]; rfl
  have f2_7 : (((w.alloc (.cells #[.int .i64 mq, .int .i64 mp, .int .i64 xq, .int .i64 xp, .bool false, .int .i64 lf, .int .i64 st, .int .i64 en] 30)).alloc (.cells #[.int .i64 q, .int .i64 p] 23)).alloc (.cells #[.int .i64 0, .int .i64 0, .int .i64 0, .int .i64 0, .bool false, .int .i64 0, .int .i64 0, .int .i64 0] 30)).frozen? ⟨w.heap.size + 1 + 1, 7, none⟩ = false := by simp only [frozen?_alloc_cells]; exact frozen_beyond _ _ _ (by omega)
  have z_ : w.heap.size + 1 + 1 < (((w.alloc (.cells #[.int .i64 mq, .int .i64 mp, .int .i64 xq, .int .i64 xp, .bool false, .int .i64 lf, .int .i64 st, .int .i64 en] 30)).alloc (.cells #[.int .i64 q, .int .i64 p] 23)).alloc (.cells #[.int .i64 0, .int .i64 0, .int .i64 0, .int .i64 0, .bool false, .int .i64 0, .int .i64 0, .int .i64 0] 30)).heap.size := by simp
  go_enter Tryd.func35, Tryd.ntmps35
  go_wp2_with fail
  refine (rbvalid_ok mq mp xq xp false lf st en _ h).mono ?_
  rintro e w1 ⟨rfl, hb1⟩
  replace k0_0 := keep hb1 k0_0
  replace k0_1 := keep hb1 k0_1
  replace k0_2 := keep hb1 k0_2
  replace k0_3 := keep hb1 k0_3
  replace k0_4 := keep hb1 k0_4
  replace k0_5 := keep hb1 k0_5
  replace k0_6 := keep hb1 k0_6
  replace k0_7 := keep hb1 k0_7
  replace k1_0 := keep hb1 k1_0
  replace k1_1 := keep hb1 k1_1
  replace k2_0 := keep hb1 k2_0
  replace k2_1 := keep hb1 k2_1
  replace k2_2 := keep hb1 k2_2
  replace k2_3 := keep hb1 k2_3
  replace k2_4 := keep hb1 k2_4
  replace k2_5 := keep hb1 k2_5
  replace k2_6 := keep hb1 k2_6
  replace k2_7 := keep hb1 k2_7
  replace f0_0 := keepf hb1 (by omega) f0_0
  replace f0_1 := keepf hb1 (by omega) f0_1
  replace f0_2 := keepf hb1 (by omega) f0_2
  replace f0_3 := keepf hb1 (by omega) f0_3
  replace f0_4 := keepf hb1 (by omega) f0_4
  replace f0_5 := keepf hb1 (by omega) f0_5
  replace f0_6 := keepf hb1 (by omega) f0_6
  replace f0_7 := keepf hb1 (by omega) f0_7
  replace f2_0 := keepf hb1 (by omega) f2_0
  replace f2_1 := keepf hb1 (by omega) f2_1
  replace f2_2 := keepf hb1 (by omega) f2_2
  replace f2_3 := keepf hb1 (by omega) f2_3
  replace f2_4 := keepf hb1 (by omega) f2_4
  replace f2_5 := keepf hb1 (by omega) f2_5
  replace f2_6 := keepf hb1 (by omega) f2_6
  replace f2_7 := keepf hb1 (by omega) f2_7
  replace z_ := Nat.lt_of_lt_of_le z_ hb1.size
  replace HB := below_call HB (Nat.le_refl _) hb1
  clear hb1
  go_wp2_with fail
  refine (rvalid_ok q p _ hr).mono ?_
  rintro e w2 ⟨rfl, hb2⟩
  replace k0_0 := keep hb2 k0_0
  replace k0_1 := keep hb2 k0_1
  replace k0_2 := keep hb2 k0_2
  replace k0_3 := keep hb2 k0_3
  replace k0_4 := keep hb2 k0_4
  replace k0_5 := keep hb2 k0_5
  replace k0_6 := keep hb2 k0_6
  replace k0_7 := keep hb2 k0_7
  replace k1_0 := keep hb2 k1_0
  replace k1_1 := keep hb2 k1_1
  replace k2_0 := keep hb2 k2_0
  replace k2_1 := keep hb2 k2_1
  replace k2_2 := keep hb2 k2_2
  replace k2_3 := keep hb2 k2_3
  replace k2_4 := keep hb2 k2_4
  replace k2_5 := keep hb2 k2_5
  replace k2_6 := keep hb2 k2_6
  replace k2_7 := keep hb2 k2_7
  replace f0_0 := keepf hb2 (by omega) f0_0
  replace f0_1 := keepf hb2 (by omega) f0_1
  replace f0_2 := keepf hb2 (by omega) f0_2
  replace f0_3 := keepf hb2 (by omega) f0_3
  replace f0_4 := keepf hb2 (by omega) f0_4
  replace f0_5 := keepf hb2 (by omega) f0_5
  replace f0_6 := keepf hb2 (by omega) f0_6
  replace f0_7 := keepf hb2 (by omega) f0_7
  replace f2_0 := keepf hb2 (by omega) f2_0
  replace f2_1 := keepf hb2 (by omega) f2_1
  replace f2_2 := keepf hb2 (by omega) f2_2
  replace f2_3 := keepf hb2 (by omega) f2_3
  replace f2_4 := keepf hb2 (by omega) f2_4
  replace f2_5 := keepf hb2 (by omega) f2_5
  replace f2_6 := keepf hb2 (by omega) f2_6
  replace f2_7 := keepf hb2 (by omega) f2_7
  replace z_ := Nat.lt_of_lt_of_le z_ hb2.size
  replace HB := below_call HB (Nat.le_refl _) hb2
  clear hb2
  go_wp2
  refine bodyPost_ret (v := .tuple #[bud mq mp q p false lf st en, .int .i64 0]) (by simp [results, Tryd.results35, go_sem, k2_0, k2_1, k2_2, k2_3, k2_4, k2_5, k2_6, k2_7]) rfl ⟨rfl, ?_⟩
  repeat (first | (with_reducible exact HB) | (with_reducible refine below_drewN' ?_ _) | (with_reducible refine Below.drew ?_) | (with_reducible refine Below.setCell ?_ (by simp <;> omega) _))

set_option maxHeartbeats 4000000 in
set_option maxRecDepth 100000 in
theorem rrs_same (mq mp xq xp : Int) (lf st en : Int) (w : World) (h : BV mq mp xq xp lf st en) :
    Calls Tryd.prog 35 #[bud mq mp xq xp false lf st en, .agg #[.int .i64 mq, .int .i64 mp]] w fun e w' => e = .returned (.tuple #[bud mq mp 0 0 false lf st en, .int .i64 0]) ∧ Below w.heap.size w w' := by
  have hr := h.1
  have HB : Below w.heap.size w (((w.alloc (.cells #[.int .i64 mq, .int .i64 mp, .int .i64 xq, .int .i64 xp, .bool false, .int .i64 lf, .int .i64 st, .int .i64 en] 30)).alloc (.cells #[.int .i64 mq, .int .i64 mp] 23)).alloc (.cells #[.int .i64 0, .int .i64 0, .int .i64 0, .int .i64 0, .bool false, .int .i64 0, .int .i64 0, .int .i64 0] 30)) := ((((Below.refl _ w).alloc (by simp) _).alloc (by simp) _).alloc (by simp; omega) _)
  have k0_0 : (((w.alloc (.cells #[.int .i64 mq, .int .i64 mp, .int .i64 xq, .int .i64 xp, .bool false, .int .i64 lf, .int .i64 st, .int .i64 en] 30)).alloc (.cells #[.int .i64 mq, .int .i64 mp] 23)).alloc (.cells #[.int .i64 0, .int .i64 0, .int .i64 0, .int .i64 0, .bool false, .int .i64 0, .int .i64 0, .int .i64 0] 30)).cell? ⟨w.heap.size, 0, none⟩ = some (.int .i64 mq) := by rw [World.cell?_alloc_lt _ _ _ (by simp <;> omega), World.cell?_alloc_lt _ _ _ (by simp <;> omega), World.cell?_alloc_at _ _ _ _ (by simp)]; rfl
  have f0_0 : (((w.alloc (.cells #[.int .i64 mq, .int .i64 mp, .int .i64 xq, .int .i64 xp, .bool false, .int .i64 lf, .int .i64 st, .int .i64 en] 30)).alloc (.cells #[.int .i64 mq, .int .i64 mp] 23)).alloc (.cells #[.int .i64 0, .int .i64 0, .int .i64 0, .int .i64 0, .bool false, .int .i64 0, .int .i64 0, .int .i64 0] 30)).frozen? ⟨w.heap.size, 0, none⟩ = false := by simp only [frozen?_alloc_cells]; exact frozen_beyond _ _ _ (by omega)
  have k0_1 : (((w.alloc (.cells #[.int .i64 mq, .int .i64 mp, .int .i64 xq, .int .i64 xp, .bool false, .int .i64 lf, .int .i64 st, .int .i64 en] 30)).alloc (.cells #[.int .i64 mq, .int .i64 mp] 23)).alloc (.cells #[.int .i64 0, .int .i64 0, .int .i64 0, .int .i64 0, .bool false, .int .i64 0, .int .i64 0, .int .i64 0] 30)).cell? ⟨w.heap.size, 1, none⟩ = some (.int .i64 mp) := by rw [World.cell?_alloc_lt _ _ _ (by simp <;> omega), World.cell?_alloc_lt _ _ _ (by simp <;> omega), World.cell?_alloc_at _ _ _ _ (by simp)]; rfl
  have f0_1 : (((w.alloc (.cells #[.int .i64 mq, .int .i64 mp, .int .i64 xq, .int .i64 xp, .bool false, .int .i64 lf, .int .i64 st, .int .i64 en] 30)).alloc (.cells #[.int .i64 mq, .int .i64 mp] 23)).alloc (.cells #[.int .i64 0, .int .i64 0, .int .i64 0, .int .i64 0, .bool false, .int .i64 0, .int .i64 0, .int .i64 0] 30)).frozen? ⟨w.heap.size, 1, none⟩ = false := by simp only [frozen?_alloc_cells]; exact frozen_beyond _ _ _ (by omega)
  have k0_2 : (((w.alloc (.cells #[.int .i64 mq, .int .i64 mp, .int .i64 xq, .int .i64 xp, .bool false, .int .i64 lf, .int .i64 st, .int .i64 en] 30)).alloc (.cells #[.int .i64 mq, .int .i64 mp] 23)).alloc (.cells #[.int .i64 0, .int .i64 0, .int .i64 0, .int .i64 0, .bool false, .int .i64 0, .int .i64 0, .int .i64 0] 30)).cell? ⟨w.heap.size, 2, none⟩ = some (.int .i64 xq) := by rw [World.cell?_alloc_lt _ _ _ (by simp <;> omega), World.cell?_alloc_lt _ _ _ (by simp <;> omega), World.cell?_alloc_at _ _ _ _ (by simp)]; rfl
  have f0_2 : (((w.alloc (.cells #[.int .i64 mq, .int .i64 mp, .int .i64 xq, .int .i64 xp, .bool false, .int .i64 lf, .int .i64 st, .int .i64 en] 30)).alloc (.cells #[.int .i64 mq, .int .i64 mp] 23)).alloc (.cells #[.int .i64 0, .int .i64 0, .int .i64 0, .int .i64 0, .bool false, .int .i64 0, .int .i64 0, .int .i64 0] 30)).frozen? ⟨w.heap.size, 2, none⟩ = false := by simp only [frozen?_alloc_cells]; exact frozen_beyond _ _ _ (by omega)
  have k0_3 : (((w.alloc (.cells #[.int .i64 mq, .int .i64 mp, .int .i64 xq, .int .i64 xp, .bool false, .int .i64 lf, .int .i64 st, .int .i64 en] 30)).alloc (.cells #[.int .i64 mq, .int .i64 mp] 23)).alloc (.cells #[.int .i64 0, .int .i64 0, .int .i64 0, .int .i64 0, .bool false, .int .i64 0, .int .i64 0, .int .i64 0] 30)).cell? ⟨w.heap.size, 3, none⟩ = some (.int .i64 xp) := by rw [World.cell?_alloc_lt _ _ _ (by simp <;> omega), World.cell?_alloc_lt _ _ _ (by simp <;> omega), World.cell?_alloc_at _ _ _ _ (by simp)]; rfl
  have f0_3 : (((w.alloc (.cells #[.int .i64 mq, .int .i64 mp, .int .i64 xq, .int .i64 xp, .bool false, .int .i64 lf, .int .i64 st, .int .i64 en] 30)).alloc (.cells #[.int .i64 mq, .int .i64 mp] 23)).alloc (.cells #[.int .i64 0, .int .i64 0, .int .i64 0, .int .i64 0, .bool false, .int .i64 0, .int .i64 0, .int .i64 0] 30)).frozen? ⟨w.heap.size, 3, none⟩ = false := by simp only [frozen?_alloc_cells]; exact frozen_beyond _ _ _ (by omega)
  have k0_4 : (((w.alloc (.cells #[.int .i64 mq, .int .i64 mp, .int .i64 xq, .int .i64 xp, .bool false, .int .i64 lf, .int .i64 st, .int .i64 en] 30)).alloc (.cells #[.int .i64 mq, .int .i64 mp] 23)).alloc (.cells #[.int .i64 0, .int .i64 0, .int .i64 0, .int .i64 0, .bool false, .int .i64 0, .int .i64 0, .int .i64 0] 30)).cell? ⟨w.heap.size, 4, none⟩ = some (.bool false) := by rw [World.cell?_alloc_lt _ _ _ (by simp <;> omega), World.cell?_alloc_lt _ _ _ (by simp <;> omega), World.cell?_alloc_at _ _ _ _ (by simp)]; rfl
  have f0_4 : (((w.alloc (.cells #[.int .i64 mq, .int .i64 mp, .int .i64 xq, .int .i64 xp, .bool false, .int .i64 lf, .int .i64 st, .int .i64 en] 30)).alloc (.cells #[.int .i64 mq, .int .i64 mp] 23)).alloc (.cells #[.int .i64 0, .int .i64 0, .int .i64 0, .int .i64 0, .bool false, .int .i64 0, .int .i64 0, .int .i64 0] 30)).frozen? ⟨w.heap.size, 4, none⟩ = false := by simp only [frozen?_alloc_cells]; exact frozen_beyond _ _ _ (by omega)
  have k0_5 : (((w.alloc (.cells #[.int .i64 mq, .int .i64 mp, .int .i64 xq, .int .i64 xp, .bool false, .int .i64 lf, .int .i64 st, .int .i64 en] 30)).alloc (.cells #[.int .i64 mq, .int .i64 mp] 23)).alloc (.cells #[.int .i64 0, .int .i64 0, .int .i64 0, .int .i64 0, .bool false, .int .i64 0, .int .i64 0, .int .i64 0] 30)).cell? ⟨w.heap.size, 5, none⟩ = some (.int .i64 lf) := by rw [World.cell?_alloc_lt _ _ _ (by simp <;> omega), World.cell?_alloc_lt _ _ _ (by simp <;> omega), World.cell?_alloc_at _ _ _ _ (by simp)]; rfl
  have f0_5 : (((w.alloc (.cells #[.int .i64 mq, .int .i64 mp, .int .i64 xq, .int .i64 xp, .bool false, .int .i64 lf, .int .i64 st, .int .i64 en] 30)).alloc (.cells #[.int .i64 mq, .int .i64 mp] 23)).alloc (.cells #[.int .i64 0, .int .i64 0, .int .i64 0, .int .i64 0, .bool false, .int .i64 0, .int .i64 0, .int .i64 0] 30)).frozen? ⟨w.heap.size, 5, none⟩ = false := by simp only [frozen?_alloc_cells]; exact frozen_beyond _ _ _ (by omega)
  have k0_6 : (((w.alloc (.cells #[.int .i64 mq, .int .i64 mp, .int .i64 xq, .int .i64 xp, .bool false, .int .i64 lf, .int .i64 st, .int .i64 en] 30)).alloc (.cells #[.int .i64 mq, .int .i64 mp] 23)).alloc (.cells #[.int .i64 0, .int .i64 0, .int .i64 0, .int .i64 0, .bool false, .int .i64 0, .int .i64 0, .int .i64 0] 30)).cell? ⟨w.heap.size, 6, none⟩ = some (.int .i64 st) := by rw [World.cell?_alloc_lt _ _ _ (by simp <;> omega), World.cell?_alloc_lt _ _ _ (by simp <;> omega), World.cell?_alloc_at _ _ _ _ (by simp)]; rfl
  have f0_6 : (((w.alloc (.cells #[.int .i64 mq, .int .i64 mp, .int .i64 xq, .int .i64 xp, .bool false, .int .i64 lf, .int .i64 st, .int .i64 en] 30)).alloc (.cells #[.int .i64 mq, .int .i64 mp] 23)).alloc (.cells #[.int .i64 0, .int .i64 0, .int .i64 0, .int .i64 0, .bool false, .int .i64 0, .int .i64 0, .int .i64 0] 30)).frozen? ⟨w.heap.size, 6, none⟩ = false := by simp only [frozen?_alloc_cells]; exact frozen_beyond _ _ _ (by omega)
  have k0_7 : (((w.alloc (.cells #[.int .i64 mq, .int .i64 mp, .int .i64 xq, .int .i64 xp, .bool false, .int .i64 lf, .int .i64 st, .int .i64 en] 30)).alloc (.cells #[.int .i64 mq, .int .i64 mp] 23)).alloc (.cells #[.int .i64 0, .int .i64 0, .int .i64 0, .int .i64 0, .bool false, .int .i64 0, .int .i64 0, .int .i64 0] 30)).cell? ⟨w.heap.size, 7, none⟩ = some (.int .i64 en) := by rw [World.cell?_alloc_lt _ _ _ (by simp <;> omega), World.cell?_alloc_lt _ _ _ (by simp <;> omega), World.cell?_alloc_at _ _ _ _ (by simp)]; rfl
  have f0_7 : (((w.alloc (.cells #[.int .i64 mq, .int .i64 mp, .int .i64 xq, .int .i64 xp, .bool false, .int .i64 lf, .int .i64 st, .int .i64 en] 30)).alloc (.cells #[.int .i64 mq, .int .i64 mp] 23)).alloc (.cells #[.int .i64 0, .int .i64 0, .int .i64 0, .int .i64 0, .bool false, .int .i64 0, .int .i64 0, .int .i64 0] 30)).frozen? ⟨w.heap.size, 7, none⟩ = false := by simp only [frozen?_alloc_cells]; exact frozen_beyond _ _ _ (by omega)
  have k1_0 : (((w.alloc (.cells #[.int .i64 mq, .int .i64 mp, .int .i64 xq, .int .i64 xp, .bool false, .int .i64 lf, .int .i64 st, .int .i64 en] 30)).alloc (.cells #[.int .i64 mq, .int .i64 mp] 23)).alloc (.cells #[.int .i64 0, .int .i64 0, .int .i64 0, .int .i64 0, .bool false, .int .i64 0, .int .i64 0, .int .i64 0] 30)).cell? ⟨w.heap.size + 1, 0, none⟩ = some (.int .i64 mq) := by rw [World.cell?_alloc_lt _ _ _ (by simp <;> omega), World.cell?_alloc_at _ _ _ _ (by simp)]; rfl
  have k1_1 : (((w.alloc (.cells #[.int .i64 mq, .int .i64 mp, .int .i64 xq, .int .i64 xp, .bool false, .int .i64 lf, .int .i64 st, .int .i64 en] 30)).alloc (.cells #[.int .i64 mq, .int .i64 mp] 23)).alloc (.cells #[.int .i64 0, .int .i64 0, .int .i64 0, .int .i64 0, .bool false, .int .i64 0, .int .i64 0, .int .i64 0] 30)).cell? ⟨w.heap.size + 1, 1, none⟩ = some (.int .i64 mp) := by rw [World.cell?_alloc_lt _ _ _ (by simp <;> omega), World.cell?_alloc_at _ _ _ _ (by simp)]; rfl
  have k2_0 : (((w.alloc (.cells #[.int .i64 mq, .int .i64 mp, .int .i64 xq, .int .i64 xp, .bool false, .int .i64 lf, .int .i64 st, .int .i64 en] 30)).alloc (.cells #[.int .i64 mq, .int .i64 mp] 23)).alloc (.cells #[.int .i64 0, .int .i64 0, .int .i64 0, .int .i64 0, .bool false, .int .i64 0, .int .i64 0, .int .i64 0] 30)).cell? ⟨w.heap.size + 1 + 1, 0, none⟩ = some (.int .i64 0) := by rw [World.cell?_alloc_at _ _ _ _ (by simp)]; rfl
  have f2_0 : (((w.alloc (.cells #[.int .i64 mq, .int .i64 mp, .int .i64 xq, .int .i64 xp, .bool false, .int .i64 lf, .int .i64 st, .int .i64 en] 30)).alloc (.cells #[.int .i64 mq, .int .i64 mp] 23)).alloc (.cells #[.int .i64 0, .int .i64 0, .int .i64 0, .int .i64 0, .bool false, .int .i64 0, .int .i64 0, .int .i64 0] 30)).frozen? ⟨w.heap.size + 1 + 1, 0, none⟩ = false := by simp only [frozen?_alloc_cells]; exact frozen_beyond _ _ _ (by omega)
  have k2_1 : (((w.alloc (.cells #[.int .i64 mq, .int .i64 mp, .int .i64 xq, .int .i64 xp, .bool false, .int .i64 lf, .int .i64 st, .int .i64 en] 30)).alloc (.cells #[.int .i64 mq, .int .i64 mp] 23)).alloc (.cells #[.int .i64 0, .int .i64 0, .int .i64 0, .int .i64 0, .bool false, .int .i64 0, .int .i64 0, .int .i64 0] 30)).cell? ⟨w.heap.size + 1 + 1, 1, none⟩ = some (.int .i64 0) := by rw [World.cell?_alloc_at _ _ _ _ (by simp)]; rfl
  have f2_1 : (((w.alloc (.cells #[.int .i64 mq, .int .i64 mp, .int .i64 xq, .int .i64 xp, .bool false, .int .i64 lf, .int .i64 st, .int .i64 en] 30)).alloc (.cells #[.int .i64 mq, .int .i64 mp] 23)).alloc (.cells #[.int .i64 0, .int .i64 0, .int .i64 0, .int .i64 0, .bool false, .int .i64 0, .int .i64 0, .int .i64 0] 30)).frozen? ⟨w.heap.size + 1 + 1, 1, none⟩ = false := by simp only [frozen?_alloc_cells]; exact frozen_beyond _ _ _ (by omega)
  have k2_2 : (((w.alloc (.cells #[.int .i64 mq, .int .i64 mp, .int .i64 xq, .int .i64 xp, .bool false, .int .i64 lf, .int .i64 st, .int .i64 en] 30)).alloc (.cells #[.int .i64 mq, .int .i64 mp] 23)).alloc (.cells #[.int .i64 0, .int .i64 0, .int .i64 0, .int .i64 0, .bool false, .int .i64 0, .int .i64 0, .int .i64 0] 30)).cell? ⟨w.heap.size + 1 + 1, 2, none⟩ = some (.int .i64 0) := by rw [World.cell?_alloc_at _ _ _ _ (by simp)]; rfl
  have f2_2 : (((w.alloc (.cells #[.int .i64 mq, .int .i64 mp, .int .i64 xq, .int .i64 xp, .bool false, .int .i64 lf, .int .i64 st, .int .i64 en] 30)).alloc (.cells #[.int .i64 mq, .int .i64 mp] 23)).alloc (.cells #[.int .i64 0, .int .i64 0, .int .i64 0, .int .i64 0, .bool false, .int .i64 0, .int .i64 0, .int .i64 0] 30)).frozen? ⟨w.heap.size + 1 + 1, 2, none⟩ = false := by simp only [frozen?_alloc_cells]; exact frozen_beyond _ _ _ (by omega)
  have k2_3 : (((w.alloc (.cells #[.int .i64 mq, .int .i64 mp, .int .i64 xq, .int .i64 xp, .bool false, .int .i64 lf, .int .i64 st, .int .i64 en] 30)).alloc (.cells #[.int .i64 mq, .int .i64 mp] 23)).alloc (.cells #[.int .i64 0, .int .i64 0, .int .i64 0, .int .i64 0, .bool false, .int .i64 0, .int .i64 0, .int .i64 0] 30)).cell? ⟨w.heap.size + 1 + 1, 3, none⟩ = some (.int .i64 0) := by rw [World.cell?_alloc_at _ _ _ _ (by simp)]; rfl
  have f2_3 : (((w.alloc (.cells #[.int .i64 mq, .int .i64 mp, .int .i64 xq, .int .i64 xp, .bool false, .int .i64 lf, .int .i64 st, .int .i64 en] 30)).alloc (.cells #[.int .i64 mq, .int .i64 mp] 23)).alloc (.cells #[.int .i64 0, .int .i64 0, .int .i64 0, .int .i64 0, .bool false, .int .i64 0, .int .i64 0, .int .i64 0] 30)).frozen? ⟨w.heap.size + 1 + 1, 3, none⟩ = false := by simp only [frozen?_alloc_cells]; exact frozen_beyond _ _ _ (by omega)
  have k2_4 : (((w.alloc (.cells #[.int .i64 mq, .int .i64 mp, .int .i64 xq, .int .i64 xp, .bool false, .int .i64 lf, .int .i64 st, .int .i64 en] 30)).alloc (.cells #[.int .i64 mq, .int .i64 mp] 23)).alloc (.cells #[.int .i64 0, .int .i64 0, .int .i64 0, .int .i64 0, .bool false, .int .i64 0, .int .i64 0, .int .i64 0] 30)).cell? ⟨w.heap.size + 1 + 1, 4, none⟩ = some (.bool false) := by rw [World.cell?_alloc_at _ _ _ _ (by simp)]; rfl
  have f2_4 : (((w.alloc (.cells #[.int .i64 mq, .int .i64 mp, .int .i64 xq, .int .i64 xp, .bool false, .int .i64 lf, .int .i64 st, .int .i64 en] 30)).alloc (.cells #[.int .i64 mq, .int .i64 mp] 23)).alloc (.cells #[.int .i64 0, .int .i64 0, .int .i64 0, .int .i64 0, .bool false, .int .i64 0, .int .i64 0, .int .i64 0] 30)).frozen? ⟨w.heap.size + 1 + 1, 4, none⟩ = false := by simp only [frozen?_alloc_cells]; exact frozen_beyond _ _ _ (by omega)
  have k2_5 : (((w.alloc (.cells #[.int .i64 mq, .int .i64 mp, .int .i64 xq, .int .i64 xp, .bool false, .int .i64 lf, .int .i64 st, .int .i64 en] 30)).alloc (.cells #[.int .i64 mq, .int .i64 mp] 23)).alloc (.cells #[.int .i64 0, .int .i64 0, .int .i64 0, .int .i64 0, .bool false, .int .i64 0, .int .i64 0, .int .i64 0] 30)).cell? ⟨w.heap.size + 1 + 1, 5, none⟩ = some (.int .i64 0) := by rw [World.cell?_alloc_at _ _ _ _ (by simp)]; rfl
  have f2_5 : (((w.alloc (.cells #[.int .i64 mq, .int .i64 mp, .int .i64 xq, .int .i64 xp, .bool false, .int .i64 lf, .int .i64 st, .int .i64 en] 30)).alloc (.cells #[.int .i64 mq, .int .i64 mp] 23)).alloc (.cells #[.int .i64 0, .int .i64 0, .int .i64 0, .int .i64 0, .bool false, .int .i64 0, .int .i64 0, .int .i64 0] 30)).frozen? ⟨w.heap.size + 1 + 1, 5, none⟩ = false := by simp only [frozen?_alloc_cells]; exact frozen_beyond _ _ _ (by omega)
  have k2_6 : (((w.alloc (.cells #[.int .i64 mq, .int .i64 mp, .int .i64 xq, .int .i64 xp, .bool false, .int .i64 lf, .int .i64 st, .int .i64 en] 30)).alloc (.cells #[.int .i64 mq, .int .i64 mp] 23)).alloc (.cells #[.int .i64 0, .int .i64 0, .int .i64 0, .int .i64 0, .bool false, .int .i64 0, .int .i64 0, .int .i64 0] 30)).cell? ⟨w.heap.size + 1 + 1, 6, none⟩ = some (.int .i64 0) := by rw [World.cell?_alloc_at _ _ _ _ (by simp)]; rfl
  have f2_6 : (((w.alloc (.cells #[.int .i64 mq, .int .i64 mp, .int .i64 xq, .int .i64 xp, .bool false, .int .i64 lf, .int .i64 st, .int .i64 en] 30)).alloc (.cells #[.int .i64 mq, .int .i64 mp] 23)).alloc (.cells #[.int .i64 0, .int .i64 0, .int .i64 0, .int .i64 0, .bool false, .int .i64 0, .int .i64 0, .int .i64 0] 30)).frozen? ⟨w.heap.size + 1 + 1, 6, none⟩ = false := by simp only [frozen?_alloc_cells]; exact frozen_beyond _ _ _ (by omega)
  have k2_7 : (((w.alloc (.cells #[.int .i64 mq, .int .i64 mp, .int .i64 xq, .int .i64 xp, .bool false, .int .i64 lf, .int .i64 st, .int .i64 en] 30)).alloc (.cells #[.int .i64 mq, .int .i64 mp] 23)).alloc (.cells #[.int .i64 0, .int .i64 0, .int .i64 0, .int .i64 0, .bool false, .int .i64 0, .int .i64 0, .int .i64 0] 30)).cell? ⟨w.heap.size + 1 + 1, 7, none⟩ = some (.int .i64 0) := by rw [World.cell?_alloc_at _ _ _ _ (by simp)]; rfl
  have f2_7 : (((w.alloc (.cells #[.int .i64 mq, .int .i64 mp, .int .i64 xq, .int .i64 xp, .bool false, .int .i64 lf, .int .i64 st, .int .i64 en] 30)).alloc (.cells #[.int .i64 mq, .int .i64 mp] 23)).alloc (.cells #[.int .i64 0, .int .i64 0, .int .i64 0, .int .i64 0, .bool false, .int .i64 0, .int .i64 0, .int .i64 0] 30)).frozen? ⟨w.heap.size + 1 + 1, 7, none⟩ = false := by simp only [frozen?_alloc_cells]; exact frozen_beyond _ _ _ (by omega)
  have z_ : w.heap.size + 1 + 1 < (((w.alloc (.cells #[.int .i64 mq, .int .i64 mp, .int .i64 xq, .int .i64 xp, .bool false, .int .i64 lf, .int .i64 st, .int .i64 en] 30)).alloc (.cells #[.int .i64 mq, .int .i64 mp] 23)).alloc (.cells #[.int .i64 0, .int .i64 0, .int .i64 0, .int .i64 0, .bool false, .int .i64 0, .int .i64 0, .int .i64 0] 30)).heap.size := by simp
  go_enter Tryd.func35, Tryd.ntmps35
  go_wp2_with fail
  refine (rbvalid_ok mq mp xq xp false lf st en _ h).mono ?_
  rintro e w1 ⟨rfl, hb1⟩
  replace k0_0 := keep hb1 k0_0
  replace k0_1 := keep hb1 k0_1
  replace k0_2 := keep hb1 k0_2
  replace k0_3 := keep hb1 k0_3
  replace k0_4 := keep hb1 k0_4
  replace k0_5 := keep hb1 k0_5
  replace k0_6 := keep hb1 k0_6
  replace k0_7 := keep hb1 k0_7
  replace k1_0 := keep hb1 k1_0
  replace k1_1 := keep hb1 k1_1
  replace k2_0 := keep hb1 k2_0
  replace k2_1 := keep hb1 k2_1
  replace k2_2 := keep hb1 k2_2
  replace k2_3 := keep hb1 k2_3
  replace k2_4 := keep hb1 k2_4
  replace k2_5 := keep hb1 k2_5
  replace k2_6 := keep hb1 k2_6
  replace k2_7 := keep hb1 k2_7
  replace f0_0 := keepf hb1 (by omega) f0_0
  replace f0_1 := keepf hb1 (by omega) f0_1
  replace f0_2 := keepf hb1 (by omega) f0_2
  replace f0_3 := keepf hb1 (by omega) f0_3
  replace f0_4 := keepf hb1 (by omega) f0_4
  replace f0_5 := keepf hb1 (by omega) f0_5
  replace f0_6 := keepf hb1 (by omega) f0_6
  replace f0_7 := keepf hb1 (by omega) f0_7
  replace f2_0 := keepf hb1 (by omega) f2_0
  replace f2_1 := keepf hb1 (by omega) f2_1
  replace f2_2 := keepf hb1 (by omega) f2_2
  replace f2_3 := keepf hb1 (by omega) f2_3
  replace f2_4 := keepf hb1 (by omega) f2_4
  replace f2_5 := keepf hb1 (by omega) f2_5
  replace f2_6 := keepf hb1 (by omega) f2_6
  replace f2_7 := keepf hb1 (by omega) f2_7
  replace z_ := Nat.lt_of_lt_of_le z_ hb1.size
  replace HB := below_call HB (Nat.le_refl _) hb1
  clear hb1
  clear h
  go_wp2_with fail
  refine (rvalid_ok mq mp _ hr).mono ?_
  rintro e w2 ⟨rfl, hb2⟩
  replace k0_0 := keep hb2 k0_0
  replace k0_1 := keep hb2 k0_1
  replace k0_2 := keep hb2 k0_2
  replace k0_3 := keep hb2 k0_3
  replace k0_4 := keep hb2 k0_4
  replace k0_5 := keep hb2 k0_5
  replace k0_6 := keep hb2 k0_6
  replace k0_7 := keep hb2 k0_7
  replace k1_0 := keep hb2 k1_0
  replace k1_1 := keep hb2 k1_1
  replace k2_0 := keep hb2 k2_0
  replace k2_1 := keep hb2 k2_1
  replace k2_2 := keep hb2 k2_2
  replace k2_3 := keep hb2 k2_3
  replace k2_4 := keep hb2 k2_4
  replace k2_5 := keep hb2 k2_5
  replace k2_6 := keep hb2 k2_6
  replace k2_7 := keep hb2 k2_7
  replace f0_0 := keepf hb2 (by omega) f0_0
  replace f0_1 := keepf hb2 (by omega) f0_1
  replace f0_2 := keepf hb2 (by omega) f0_2
  replace f0_3 := keepf hb2 (by omega) f0_3
  replace f0_4 := keepf hb2 (by omega) f0_4
  replace f0_5 := keepf hb2 (by omega) f0_5
  replace f0_6 := keepf hb2 (by omega) f0_6
  replace f0_7 := keepf hb2 (by omega) f0_7
  replace f2_0 := keepf hb2 (by omega) f2_0
  replace f2_1 := keepf hb2 (by omega) f2_1
  replace f2_2 := keepf hb2 (by omega) f2_2
  replace f2_3 := keepf hb2 (by omega) f2_3
  replace f2_4 := keepf hb2 (by omega) f2_4
  replace f2_5 := keepf hb2 (by omega) f2_5
  replace f2_6 := keepf hb2 (by omega) f2_6
  replace f2_7 := keepf hb2 (by omega) f2_7
  replace z_ := Nat.lt_of_lt_of_le z_ hb2.size
  replace HB := below_call HB (Nat.le_refl _) hb2
  clear hb2
  go_upto_region 8 with (fail)
  obtain ⟨w3, hw3⟩ : ∃ x, x = (w2.setCell ⟨w.heap.size, 2, none⟩ (.int .i64 mq)).setCell ⟨w.heap.size, 3, none⟩ (.int .i64 mp) := ⟨_, rfl⟩
  rw [← hw3]
  have n_k0_0 : w3.cell? ⟨w.heap.size, 0, none⟩ = some (.int .i64 mq) := by rw [hw3]; repeat (first | (with_reducible exact k0_0) | (with_reducible refine cdn ?_ _) | (with_reducible refine css ?_) | (with_reducible refine cso (by simp <;> omega) ?_) | (with_reducible refine iss ?_) | (with_reducible refine idn ?_ _) | (rw [k0_0]; done) | (rw [k0_0]; rfl))
  have n_k0_1 : w3.cell? ⟨w.heap.size, 1, none⟩ = some (.int .i64 mp) := by rw [hw3]; repeat (first | (with_reducible exact k0_1) | (with_reducible refine cdn ?_ _) | (with_reducible refine css ?_) | (with_reducible refine cso (by simp <;> omega) ?_) | (with_reducible refine iss ?_) | (with_reducible refine idn ?_ _) | (rw [k0_1]; done) | (rw [k0_1]; rfl))
  have n_k0_2 : w3.cell? ⟨w.heap.size, 2, none⟩ = some (.int .i64 mq) := by rw [hw3]; repeat (first | (with_reducible exact k0_2) | (with_reducible refine cdn ?_ _) | (with_reducible refine css ?_) | (with_reducible refine cso (by simp <;> omega) ?_) | (with_reducible refine iss ?_) | (with_reducible refine idn ?_ _) | (rw [k0_2]; done) | (rw [k0_2]; rfl))
  have n_k0_3 : w3.cell? ⟨w.heap.size, 3, none⟩ = some (.int .i64 mp) := by rw [hw3]; repeat (first | (with_reducible exact k0_3) | (with_reducible refine cdn ?_ _) | (with_reducible refine css ?_) | (with_reducible refine cso (by simp <;> omega) ?_) | (with_reducible refine iss ?_) | (with_reducible refine idn ?_ _) | (rw [k0_3]; done) | (rw [k0_3]; rfl))
  have n_k0_4 : w3.cell? ⟨w.heap.size, 4, none⟩ = some (.bool false) := by rw [hw3]; repeat (first | (with_reducible exact k0_4) | (with_reducible refine cdn ?_ _) | (with_reducible refine css ?_) | (with_reducible refine cso (by simp <;> omega) ?_) | (with_reducible refine iss ?_) | (with_reducible refine idn ?_ _) | (rw [k0_4]; done) | (rw [k0_4]; rfl))
  have n_k0_5 : w3.cell? ⟨w.heap.size, 5, none⟩ = some (.int .i64 lf) := by rw [hw3]; repeat (first | (with_reducible exact k0_5) | (with_reducible refine cdn ?_ _) | (with_reducible refine css ?_) | (with_reducible refine cso (by simp <;> omega) ?_) | (with_reducible refine iss ?_) | (with_reducible refine idn ?_ _) | (rw [k0_5]; done) | (rw [k0_5]; rfl))
  have n_k0_6 : w3.cell? ⟨w.heap.size, 6, none⟩ = some (.int .i64 st) := by rw [hw3]; repeat (first | (with_reducible exact k0_6) | (with_reducible refine cdn ?_ _) | (with_reducible refine css ?_) | (with_reducible refine cso (by simp <;> omega) ?_) | (with_reducible refine iss ?_) | (with_reducible refine idn ?_ _) | (rw [k0_6]; done) | (rw [k0_6]; rfl))
  have n_k0_7 : w3.cell? ⟨w.heap.size, 7, none⟩ = some (.int .i64 en) := by rw [hw3]; repeat (first | (with_reducible exact k0_7) | (with_reducible refine cdn ?_ _) | (with_reducible refine css ?_) | (with_reducible refine cso (by simp <;> omega) ?_) | (with_reducible refine iss ?_) | (with_reducible refine idn ?_ _) | (rw [k0_7]; done) | (rw [k0_7]; rfl))
  have n_k1_0 : w3.cell? ⟨w.heap.size + 1, 0, none⟩ = some (.int .i64 mq) := by rw [hw3]; repeat (first | (with_reducible exact k1_0) | (with_reducible refine cdn ?_ _) | (with_reducible refine css ?_) | (with_reducible refine cso (by simp <;> omega) ?_) | (with_reducible refine iss ?_) | (with_reducible refine idn ?_ _) | (rw [k1_0]; done) | (rw [k1_0]; rfl))
  have n_k1_1 : w3.cell? ⟨w.heap.size + 1, 1, none⟩ = some (.int .i64 mp) := by rw [hw3]; repeat (first | (with_reducible exact k1_1) | (with_reducible refine cdn ?_ _) | (with_reducible refine css ?_) | (with_reducible refine cso (by simp <;> omega) ?_) | (with_reducible refine iss ?_) | (with_reducible refine idn ?_ _) | (rw [k1_1]; done) | (rw [k1_1]; rfl))
  have n_k2_0 : w3.cell? ⟨w.heap.size + 1 + 1, 0, none⟩ = some (.int .i64 0) := by rw [hw3]; repeat (first | (with_reducible exact k2_0) | (with_reducible refine cdn ?_ _) | (with_reducible refine css ?_) | (with_reducible refine cso (by simp <;> omega) ?_) | (with_reducible refine iss ?_) | (with_reducible refine idn ?_ _) | (rw [k2_0]; done) | (rw [k2_0]; rfl))
  have n_k2_1 : w3.cell? ⟨w.heap.size + 1 + 1, 1, none⟩ = some (.int .i64 0) := by rw [hw3]; repeat (first | (with_reducible exact k2_1) | (with_reducible refine cdn ?_ _) | (with_reducible refine css ?_) | (with_reducible refine cso (by simp <;> omega) ?_) | (with_reducible refine iss ?_) | (with_reducible refine idn ?_ _) | (rw [k2_1]; done) | (rw [k2_1]; rfl))
  have n_k2_2 : w3.cell? ⟨w.heap.size + 1 + 1, 2, none⟩ = some (.int .i64 0) := by rw [hw3]; repeat (first | (with_reducible exact k2_2) | (with_reducible refine cdn ?_ _) | (with_reducible refine css ?_) | (with_reducible refine cso (by simp <;> omega) ?_) | (with_reducible refine iss ?_) | (with_reducible refine idn ?_ _) | (rw [k2_2]; done) | (rw [k2_2]; rfl))
  have n_k2_3 : w3.cell? ⟨w.heap.size + 1 + 1, 3, none⟩ = some (.int .i64 0) := by rw [hw3]; repeat (first | (with_reducible exact k2_3) | (with_reducible refine cdn ?_ _) | (with_reducible refine css ?_) | (with_reducible refine cso (by simp <;> omega) ?_) | (with_reducible refine iss ?_) | (with_reducible refine idn ?_ _) | (rw [k2_3]; done) | (rw [k2_3]; rfl))
  have n_k2_4 : w3.cell? ⟨w.heap.size + 1 + 1, 4, none⟩ = some (.bool false) := by rw [hw3]; repeat (first | (with_reducible exact k2_4) | (with_reducible refine cdn ?_ _) | (with_reducible refine css ?_) | (with_reducible refine cso (by simp <;> omega) ?_) | (with_reducible refine iss ?_) | (with_reducible refine idn ?_ _) | (rw [k2_4]; done) | (rw [k2_4]; rfl))
  have n_k2_5 : w3.cell? ⟨w.heap.size + 1 + 1, 5, none⟩ = some (.int .i64 0) := by rw [hw3]; repeat (first | (with_reducible exact k2_5) | (with_reducible refine cdn ?_ _) | (with_reducible refine css ?_) | (with_reducible refine cso (by simp <;> omega) ?_) | (with_reducible refine iss ?_) | (with_reducible refine idn ?_ _) | (rw [k2_5]; done) | (rw [k2_5]; rfl))
  have n_k2_6 : w3.cell? ⟨w.heap.size + 1 + 1, 6, none⟩ = some (.int .i64 0) := by rw [hw3]; repeat (first | (with_reducible exact k2_6) | (with_reducible refine cdn ?_ _) | (with_reducible refine css ?_) | (with_reducible refine cso (by simp <;> omega) ?_) | (with_reducible refine iss ?_) | (with_reducible refine idn ?_ _) | (rw [k2_6]; done) | (rw [k2_6]; rfl))
  have n_k2_7 : w3.cell? ⟨w.heap.size + 1 + 1, 7, none⟩ = some (.int .i64 0) := by rw [hw3]; repeat (first | (with_reducible exact k2_7) | (with_reducible refine cdn ?_ _) | (with_reducible refine css ?_) | (with_reducible refine cso (by simp <;> omega) ?_) | (with_reducible refine iss ?_) | (with_reducible refine idn ?_ _) | (rw [k2_7]; done) | (rw [k2_7]; rfl))
  have n_f0_0 : w3.frozen? ⟨w.heap.size, 0, none⟩ = false := by rw [hw3]; simp [f0_0]
  have n_f0_1 : w3.frozen? ⟨w.heap.size, 1, none⟩ = false := by rw [hw3]; simp [f0_1]
  have n_f0_2 : w3.frozen? ⟨w.heap.size, 2, none⟩ = false := by rw [hw3]; simp [f0_2]
  have n_f0_3 : w3.frozen? ⟨w.heap.size, 3, none⟩ = false := by rw [hw3]; simp [f0_3]
  have n_f0_4 : w3.frozen? ⟨w.heap.size, 4, none⟩ = false := by rw [hw3]; simp [f0_4]
  have n_f0_5 : w3.frozen? ⟨w.heap.size, 5, none⟩ = false := by rw [hw3]; simp [f0_5]
  have n_f0_6 : w3.frozen? ⟨w.heap.size, 6, none⟩ = false := by rw [hw3]; simp [f0_6]
  have n_f0_7 : w3.frozen? ⟨w.heap.size, 7, none⟩ = false := by rw [hw3]; simp [f0_7]
  have n_f2_0 : w3.frozen? ⟨w.heap.size + 1 + 1, 0, none⟩ = false := by rw [hw3]; simp [f2_0]
  have n_f2_1 : w3.frozen? ⟨w.heap.size + 1 + 1, 1, none⟩ = false := by rw [hw3]; simp [f2_1]
  have n_f2_2 : w3.frozen? ⟨w.heap.size + 1 + 1, 2, none⟩ = false := by rw [hw3]; simp [f2_2]
  have n_f2_3 : w3.frozen? ⟨w.heap.size + 1 + 1, 3, none⟩ = false := by rw [hw3]; simp [f2_3]
  have n_f2_4 : w3.frozen? ⟨w.heap.size + 1 + 1, 4, none⟩ = false := by rw [hw3]; simp [f2_4]
  have n_f2_5 : w3.frozen? ⟨w.heap.size + 1 + 1, 5, none⟩ = false := by rw [hw3]; simp [f2_5]
  have n_f2_6 : w3.frozen? ⟨w.heap.size + 1 + 1, 6, none⟩ = false := by rw [hw3]; simp [f2_6]
  have n_f2_7 : w3.frozen? ⟨w.heap.size + 1 + 1, 7, none⟩ = false := by rw [hw3]; simp [f2_7]
  replace z_ : w.heap.size + 1 + 1 < w3.heap.size := by rw [hw3]; simpa using z_
  replace HB : Below w.heap.size w w3 := by
    rw [hw3]
    repeat (first | (with_reducible exact HB) | (with_reducible refine below_drewN' ?_ _) | (with_reducible refine Below.drew ?_) | (with_reducible refine Below.setCell ?_ (by simp <;> omega) _))
  clear hw3 k0_0 k0_1 k0_2 k0_3 k0_4 k0_5 k0_6 k0_7 k1_0 k1_1 k2_0 k2_1 k2_2 k2_3 k2_4 k2_5 k2_6 k2_7 f0_0 f0_1 f0_2 f0_3 f0_4 f0_5 f0_6 f0_7 f2_0 f2_1 f2_2 f2_3 f2_4 f2_5 f2_6 f2_7
  have k0_0 := n_k0_0; clear n_k0_0
  have k0_1 := n_k0_1; clear n_k0_1
  have k0_2 := n_k0_2; clear n_k0_2
  have k0_3 := n_k0_3; clear n_k0_3
  have k0_4 := n_k0_4; clear n_k0_4
  have k0_5 := n_k0_5; clear n_k0_5
  have k0_6 := n_k0_6; clear n_k0_6
  have k0_7 := n_k0_7; clear n_k0_7
  have k1_0 := n_k1_0; clear n_k1_0
  have k1_1 := n_k1_1; clear n_k1_1
  have k2_0 := n_k2_0; clear n_k2_0
  have k2_1 := n_k2_1; clear n_k2_1
  have k2_2 := n_k2_2; clear n_k2_2
  have k2_3 := n_k2_3; clear n_k2_3
  have k2_4 := n_k2_4; clear n_k2_4
  have k2_5 := n_k2_5; clear n_k2_5
  have k2_6 := n_k2_6; clear n_k2_6
  have k2_7 := n_k2_7; clear n_k2_7
  have f0_0 := n_f0_0; clear n_f0_0
  have f0_1 := n_f0_1; clear n_f0_1
  have f0_2 := n_f0_2; clear n_f0_2
  have f0_3 := n_f0_3; clear n_f0_3
  have f0_4 := n_f0_4; clear n_f0_4
  have f0_5 := n_f0_5; clear n_f0_5
  have f0_6 := n_f0_6; clear n_f0_6
  have f0_7 := n_f0_7; clear n_f0_7
  have f2_0 := n_f2_0; clear n_f2_0
  have f2_1 := n_f2_1; clear n_f2_1
  have f2_2 := n_f2_2; clear n_f2_2
  have f2_3 := n_f2_3; clear n_f2_3
  have f2_4 := n_f2_4; clear n_f2_4
  have f2_5 := n_f2_5; clear n_f2_5
  have f2_6 := n_f2_6; clear n_f2_6
  have f2_7 := n_f2_7; clear n_f2_7
  go_wp2
  refine bodyPost_ret (v := .tuple #[bud mq mp 0 0 false lf st en, .int .i64 0]) (by simp [results, Tryd.results35, go_sem, k2_0, k2_1, k2_2, k2_3, k2_4, k2_5, k2_6, k2_7]) rfl ⟨rfl, ?_⟩
  repeat (first | (with_reducible exact HB) | (with_reducible refine below_drewN' ?_ _) | (with_reducible refine Below.drew ?_) | (with_reducible refine Below.setCell ?_ (by simp <;> omega) _))

end Go.Proofs.YtggcahcdhjnemaaDoor
