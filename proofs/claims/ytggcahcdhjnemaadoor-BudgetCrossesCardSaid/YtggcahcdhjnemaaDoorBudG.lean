/- The reference's Cross; Fair of the program and of the reference, by contract. -/
import Derived.Test.YtggcahcdhjnemaaDoorBudF
set_option linter.unusedVariables false
set_option linter.unusedSimpArgs false
namespace Go.Proofs.YtggcahcdhjnemaaDoor
open Go.RowKit
attribute [local go_sem high] eqRes

set_option maxHeartbeats 4000000 in
set_option maxRecDepth 100000 in
theorem rcr_bad (mq mp xq xp : Int) (dy : Bool) (lf st en at_ : Int) (w : World) (h : ¬ BV mq mp xq xp lf st en) :
    Calls Tryd.prog 39 #[bud mq mp xq xp dy lf st en, .int .i64 at_] w fun e w' => e = .returned (.tuple #[.agg #[.int .i64 0, .int .i64 0, .int .i64 0, .int .i64 0, .bool false, .int .i64 0, .int .i64 0, .int .i64 0], .bool false, .int .i64 270]) ∧ Below w.heap.size w w' := by
  have HB : Below w.heap.size w ((w.alloc (.cells #[.int .i64 mq, .int .i64 mp, .int .i64 xq, .int .i64 xp, .bool dy, .int .i64 lf, .int .i64 st, .int .i64 en] 30)).alloc (.cells #[.int .i64 0, .int .i64 0, .int .i64 0, .int .i64 0, .bool false, .int .i64 0, .int .i64 0, .int .i64 0] 30)) := (((Below.refl _ w).alloc (by simp) _).alloc (by simp) _)
  have k0_0 : ((w.alloc (.cells #[.int .i64 mq, .int .i64 mp, .int .i64 xq, .int .i64 xp, .bool dy, .int .i64 lf, .int .i64 st, .int .i64 en] 30)).alloc (.cells #[.int .i64 0, .int .i64 0, .int .i64 0, .int .i64 0, .bool false, .int .i64 0, .int .i64 0, .int .i64 0] 30)).cell? ⟨w.heap.size, 0, none⟩ = some (.int .i64 mq) := by simp
  have f0_0 : ((w.alloc (.cells #[.int .i64 mq, .int .i64 mp, .int .i64 xq, .int .i64 xp, .bool dy, .int .i64 lf, .int .i64 st, .int .i64 en] 30)).alloc (.cells #[.int .i64 0, .int .i64 0, .int .i64 0, .int .i64 0, .bool false, .int .i64 0, .int .i64 0, .int .i64 0] 30)).frozen? ⟨w.heap.size, 0, none⟩ = false := by simp only [frozen?_alloc_cells]; exact frozen_beyond _ _ _ (by omega)
  have k0_1 : ((w.alloc (.cells #[.int .i64 mq, .int .i64 mp, .int .i64 xq, .int .i64 xp, .bool dy, .int .i64 lf, .int .i64 st, .int .i64 en] 30)).alloc (.cells #[.int .i64 0, .int .i64 0, .int .i64 0, .int .i64 0, .bool false, .int .i64 0, .int .i64 0, .int .i64 0] 30)).cell? ⟨w.heap.size, 1, none⟩ = some (.int .i64 mp) := by simp
  have f0_1 : ((w.alloc (.cells #[.int .i64 mq, .int .i64 mp, .int .i64 xq, .int .i64 xp, .bool dy, .int .i64 lf, .int .i64 st, .int .i64 en] 30)).alloc (.cells #[.int .i64 0, .int .i64 0, .int .i64 0, .int .i64 0, .bool false, .int .i64 0, .int .i64 0, .int .i64 0] 30)).frozen? ⟨w.heap.size, 1, none⟩ = false := by simp only [frozen?_alloc_cells]; exact frozen_beyond _ _ _ (by omega)
  have k0_2 : ((w.alloc (.cells #[.int .i64 mq, .int .i64 mp, .int .i64 xq, .int .i64 xp, .bool dy, .int .i64 lf, .int .i64 st, .int .i64 en] 30)).alloc (.cells #[.int .i64 0, .int .i64 0, .int .i64 0, .int .i64 0, .bool false, .int .i64 0, .int .i64 0, .int .i64 0] 30)).cell? ⟨w.heap.size, 2, none⟩ = some (.int .i64 xq) := by simp
  have f0_2 : ((w.alloc (.cells #[.int .i64 mq, .int .i64 mp, .int .i64 xq, .int .i64 xp, .bool dy, .int .i64 lf, .int .i64 st, .int .i64 en] 30)).alloc (.cells #[.int .i64 0, .int .i64 0, .int .i64 0, .int .i64 0, .bool false, .int .i64 0, .int .i64 0, .int .i64 0] 30)).frozen? ⟨w.heap.size, 2, none⟩ = false := by simp only [frozen?_alloc_cells]; exact frozen_beyond _ _ _ (by omega)
  have k0_3 : ((w.alloc (.cells #[.int .i64 mq, .int .i64 mp, .int .i64 xq, .int .i64 xp, .bool dy, .int .i64 lf, .int .i64 st, .int .i64 en] 30)).alloc (.cells #[.int .i64 0, .int .i64 0, .int .i64 0, .int .i64 0, .bool false, .int .i64 0, .int .i64 0, .int .i64 0] 30)).cell? ⟨w.heap.size, 3, none⟩ = some (.int .i64 xp) := by simp
  have f0_3 : ((w.alloc (.cells #[.int .i64 mq, .int .i64 mp, .int .i64 xq, .int .i64 xp, .bool dy, .int .i64 lf, .int .i64 st, .int .i64 en] 30)).alloc (.cells #[.int .i64 0, .int .i64 0, .int .i64 0, .int .i64 0, .bool false, .int .i64 0, .int .i64 0, .int .i64 0] 30)).frozen? ⟨w.heap.size, 3, none⟩ = false := by simp only [frozen?_alloc_cells]; exact frozen_beyond _ _ _ (by omega)
  have k0_4 : ((w.alloc (.cells #[.int .i64 mq, .int .i64 mp, .int .i64 xq, .int .i64 xp, .bool dy, .int .i64 lf, .int .i64 st, .int .i64 en] 30)).alloc (.cells #[.int .i64 0, .int .i64 0, .int .i64 0, .int .i64 0, .bool false, .int .i64 0, .int .i64 0, .int .i64 0] 30)).cell? ⟨w.heap.size, 4, none⟩ = some (.bool dy) := by simp
  have f0_4 : ((w.alloc (.cells #[.int .i64 mq, .int .i64 mp, .int .i64 xq, .int .i64 xp, .bool dy, .int .i64 lf, .int .i64 st, .int .i64 en] 30)).alloc (.cells #[.int .i64 0, .int .i64 0, .int .i64 0, .int .i64 0, .bool false, .int .i64 0, .int .i64 0, .int .i64 0] 30)).frozen? ⟨w.heap.size, 4, none⟩ = false := by simp only [frozen?_alloc_cells]; exact frozen_beyond _ _ _ (by omega)
  have k0_5 : ((w.alloc (.cells #[.int .i64 mq, .int .i64 mp, .int .i64 xq, .int .i64 xp, .bool dy, .int .i64 lf, .int .i64 st, .int .i64 en] 30)).alloc (.cells #[.int .i64 0, .int .i64 0, .int .i64 0, .int .i64 0, .bool false, .int .i64 0, .int .i64 0, .int .i64 0] 30)).cell? ⟨w.heap.size, 5, none⟩ = some (.int .i64 lf) := by simp
  have f0_5 : ((w.alloc (.cells #[.int .i64 mq, .int .i64 mp, .int .i64 xq, .int .i64 xp, .bool dy, .int .i64 lf, .int .i64 st, .int .i64 en] 30)).alloc (.cells #[.int .i64 0, .int .i64 0, .int .i64 0, .int .i64 0, .bool false, .int .i64 0, .int .i64 0, .int .i64 0] 30)).frozen? ⟨w.heap.size, 5, none⟩ = false := by simp only [frozen?_alloc_cells]; exact frozen_beyond _ _ _ (by omega)
  have k0_6 : ((w.alloc (.cells #[.int .i64 mq, .int .i64 mp, .int .i64 xq, .int .i64 xp, .bool dy, .int .i64 lf, .int .i64 st, .int .i64 en] 30)).alloc (.cells #[.int .i64 0, .int .i64 0, .int .i64 0, .int .i64 0, .bool false, .int .i64 0, .int .i64 0, .int .i64 0] 30)).cell? ⟨w.heap.size, 6, none⟩ = some (.int .i64 st) := by simp
  have f0_6 : ((w.alloc (.cells #[.int .i64 mq, .int .i64 mp, .int .i64 xq, .int .i64 xp, .bool dy, .int .i64 lf, .int .i64 st, .int .i64 en] 30)).alloc (.cells #[.int .i64 0, .int .i64 0, .int .i64 0, .int .i64 0, .bool false, .int .i64 0, .int .i64 0, .int .i64 0] 30)).frozen? ⟨w.heap.size, 6, none⟩ = false := by simp only [frozen?_alloc_cells]; exact frozen_beyond _ _ _ (by omega)
  have k0_7 : ((w.alloc (.cells #[.int .i64 mq, .int .i64 mp, .int .i64 xq, .int .i64 xp, .bool dy, .int .i64 lf, .int .i64 st, .int .i64 en] 30)).alloc (.cells #[.int .i64 0, .int .i64 0, .int .i64 0, .int .i64 0, .bool false, .int .i64 0, .int .i64 0, .int .i64 0] 30)).cell? ⟨w.heap.size, 7, none⟩ = some (.int .i64 en) := by simp
  have f0_7 : ((w.alloc (.cells #[.int .i64 mq, .int .i64 mp, .int .i64 xq, .int .i64 xp, .bool dy, .int .i64 lf, .int .i64 st, .int .i64 en] 30)).alloc (.cells #[.int .i64 0, .int .i64 0, .int .i64 0, .int .i64 0, .bool false, .int .i64 0, .int .i64 0, .int .i64 0] 30)).frozen? ⟨w.heap.size, 7, none⟩ = false := by simp only [frozen?_alloc_cells]; exact frozen_beyond _ _ _ (by omega)
  have k1_0 : ((w.alloc (.cells #[.int .i64 mq, .int .i64 mp, .int .i64 xq, .int .i64 xp, .bool dy, .int .i64 lf, .int .i64 st, .int .i64 en] 30)).alloc (.cells #[.int .i64 0, .int .i64 0, .int .i64 0, .int .i64 0, .bool false, .int .i64 0, .int .i64 0, .int .i64 0] 30)).cell? ⟨w.heap.size + 1, 0, none⟩ = some (.int .i64 0) := by simp
  have f1_0 : ((w.alloc (.cells #[.int .i64 mq, .int .i64 mp, .int .i64 xq, .int .i64 xp, .bool dy, .int .i64 lf, .int .i64 st, .int .i64 en] 30)).alloc (.cells #[.int .i64 0, .int .i64 0, .int .i64 0, .int .i64 0, .bool false, .int .i64 0, .int .i64 0, .int .i64 0] 30)).frozen? ⟨w.heap.size + 1, 0, none⟩ = false := by simp only [frozen?_alloc_cells]; exact frozen_beyond _ _ _ (by omega)
  have k1_1 : ((w.alloc (.cells #[.int .i64 mq, .int .i64 mp, .int .i64 xq, .int .i64 xp, .bool dy, .int .i64 lf, .int .i64 st, .int .i64 en] 30)).alloc (.cells #[.int .i64 0, .int .i64 0, .int .i64 0, .int .i64 0, .bool false, .int .i64 0, .int .i64 0, .int .i64 0] 30)).cell? ⟨w.heap.size + 1, 1, none⟩ = some (.int .i64 0) := by simp
  have f1_1 : ((w.alloc (.cells #[.int .i64 mq, .int .i64 mp, .int .i64 xq, .int .i64 xp, .bool dy, .int .i64 lf, .int .i64 st, .int .i64 en] 30)).alloc (.cells #[.int .i64 0, .int .i64 0, .int .i64 0, .int .i64 0, .bool false, .int .i64 0, .int .i64 0, .int .i64 0] 30)).frozen? ⟨w.heap.size + 1, 1, none⟩ = false := by simp only [frozen?_alloc_cells]; exact frozen_beyond _ _ _ (by omega)
  have k1_2 : ((w.alloc (.cells #[.int .i64 mq, .int .i64 mp, .int .i64 xq, .int .i64 xp, .bool dy, .int .i64 lf, .int .i64 st, .int .i64 en] 30)).alloc (.cells #[.int .i64 0, .int .i64 0, .int .i64 0, .int .i64 0, .bool false, .int .i64 0, .int .i64 0, .int .i64 0] 30)).cell? ⟨w.heap.size + 1, 2, none⟩ = some (.int .i64 0) := by simp
  have f1_2 : ((w.alloc (.cells #[.int .i64 mq, .int .i64 mp, .int .i64 xq, .int .i64 xp, .bool dy, .int .i64 lf, .int .i64 st, .int .i64 en] 30)).alloc (.cells #[.int .i64 0, .int .i64 0, .int .i64 0, .int .i64 0, .bool false, .int .i64 0, .int .i64 0, .int .i64 0] 30)).frozen? ⟨w.heap.size + 1, 2, none⟩ = false := by simp only [frozen?_alloc_cells]; exact frozen_beyond _ _ _ (by omega)
  have k1_3 : ((w.alloc (.cells #[.int .i64 mq, .int .i64 mp, .int .i64 xq, .int .i64 xp, .bool dy, .int .i64 lf, .int .i64 st, .int .i64 en] 30)).alloc (.cells #[.int .i64 0, .int .i64 0, .int .i64 0, .int .i64 0, .bool false, .int .i64 0, .int .i64 0, .int .i64 0] 30)).cell? ⟨w.heap.size + 1, 3, none⟩ = some (.int .i64 0) := by simp
  have f1_3 : ((w.alloc (.cells #[.int .i64 mq, .int .i64 mp, .int .i64 xq, .int .i64 xp, .bool dy, .int .i64 lf, .int .i64 st, .int .i64 en] 30)).alloc (.cells #[.int .i64 0, .int .i64 0, .int .i64 0, .int .i64 0, .bool false, .int .i64 0, .int .i64 0, .int .i64 0] 30)).frozen? ⟨w.heap.size + 1, 3, none⟩ = false := by simp only [frozen?_alloc_cells]; exact frozen_beyond _ _ _ (by omega)
  have k1_4 : ((w.alloc (.cells #[.int .i64 mq, .int .i64 mp, .int .i64 xq, .int .i64 xp, .bool dy, .int .i64 lf, .int .i64 st, .int .i64 en] 30)).alloc (.cells #[.int .i64 0, .int .i64 0, .int .i64 0, .int .i64 0, .bool false, .int .i64 0, .int .i64 0, .int .i64 0] 30)).cell? ⟨w.heap.size + 1, 4, none⟩ = some (.bool false) := by simp
  have f1_4 : ((w.alloc (.cells #[.int .i64 mq, .int .i64 mp, .int .i64 xq, .int .i64 xp, .bool dy, .int .i64 lf, .int .i64 st, .int .i64 en] 30)).alloc (.cells #[.int .i64 0, .int .i64 0, .int .i64 0, .int .i64 0, .bool false, .int .i64 0, .int .i64 0, .int .i64 0] 30)).frozen? ⟨w.heap.size + 1, 4, none⟩ = false := by simp only [frozen?_alloc_cells]; exact frozen_beyond _ _ _ (by omega)
  have k1_5 : ((w.alloc (.cells #[.int .i64 mq, .int .i64 mp, .int .i64 xq, .int .i64 xp, .bool dy, .int .i64 lf, .int .i64 st, .int .i64 en] 30)).alloc (.cells #[.int .i64 0, .int .i64 0, .int .i64 0, .int .i64 0, .bool false, .int .i64 0, .int .i64 0, .int .i64 0] 30)).cell? ⟨w.heap.size + 1, 5, none⟩ = some (.int .i64 0) := by simp
  have f1_5 : ((w.alloc (.cells #[.int .i64 mq, .int .i64 mp, .int .i64 xq, .int .i64 xp, .bool dy, .int .i64 lf, .int .i64 st, .int .i64 en] 30)).alloc (.cells #[.int .i64 0, .int .i64 0, .int .i64 0, .int .i64 0, .bool false, .int .i64 0, .int .i64 0, .int .i64 0] 30)).frozen? ⟨w.heap.size + 1, 5, none⟩ = false := by simp only [frozen?_alloc_cells]; exact frozen_beyond _ _ _ (by omega)
  have k1_6 : ((w.alloc (.cells #[.int .i64 mq, .int .i64 mp, .int .i64 xq, .int .i64 xp, .bool dy, .int .i64 lf, .int .i64 st, .int .i64 en] 30)).alloc (.cells #[.int .i64 0, .int .i64 0, .int .i64 0, .int .i64 0, .bool false, .int .i64 0, .int .i64 0, .int .i64 0] 30)).cell? ⟨w.heap.size + 1, 6, none⟩ = some (.int .i64 0) := by simp
  have f1_6 : ((w.alloc (.cells #[.int .i64 mq, .int .i64 mp, .int .i64 xq, .int .i64 xp, .bool dy, .int .i64 lf, .int .i64 st, .int .i64 en] 30)).alloc (.cells #[.int .i64 0, .int .i64 0, .int .i64 0, .int .i64 0, .bool false, .int .i64 0, .int .i64 0, .int .i64 0] 30)).frozen? ⟨w.heap.size + 1, 6, none⟩ = false := by simp only [frozen?_alloc_cells]; exact frozen_beyond _ _ _ (by omega)
  have k1_7 : ((w.alloc (.cells #[.int .i64 mq, .int .i64 mp, .int .i64 xq, .int .i64 xp, .bool dy, .int .i64 lf, .int .i64 st, .int .i64 en] 30)).alloc (.cells #[.int .i64 0, .int .i64 0, .int .i64 0, .int .i64 0, .bool false, .int .i64 0, .int .i64 0, .int .i64 0] 30)).cell? ⟨w.heap.size + 1, 7, none⟩ = some (.int .i64 0) := by simp
  have f1_7 : ((w.alloc (.cells #[.int .i64 mq, .int .i64 mp, .int .i64 xq, .int .i64 xp, .bool dy, .int .i64 lf, .int .i64 st, .int .i64 en] 30)).alloc (.cells #[.int .i64 0, .int .i64 0, .int .i64 0, .int .i64 0, .bool false, .int .i64 0, .int .i64 0, .int .i64 0] 30)).frozen? ⟨w.heap.size + 1, 7, none⟩ = false := by simp only [frozen?_alloc_cells]; exact frozen_beyond _ _ _ (by omega)
  have z_ : w.heap.size + 1 < ((w.alloc (.cells #[.int .i64 mq, .int .i64 mp, .int .i64 xq, .int .i64 xp, .bool dy, .int .i64 lf, .int .i64 st, .int .i64 en] 30)).alloc (.cells #[.int .i64 0, .int .i64 0, .int .i64 0, .int .i64 0, .bool false, .int .i64 0, .int .i64 0, .int .i64 0] 30)).heap.size := by simp
  go_enter Tryd.func39, Tryd.ntmps39
  go_wp2_with fail
  refine (rbvalid_bad mq mp xq xp dy lf st en _ h).mono ?_
  rintro e w1 ⟨rfl, hb1⟩
  replace k0_0 := keep hb1 k0_0
  replace k0_1 := keep hb1 k0_1
  replace k0_2 := keep hb1 k0_2
  replace k0_3 := keep hb1 k0_3
  replace k0_4 := keep hb1 k0_4
  replace k0_5 := keep hb1 k0_5
  replace k0_6 := keep hb1 k0_6
  replace k0_7 := keep hb1 k0_7
  replace k1_0 := keep hb1 k1_0
  replace k1_1 := keep hb1 k1_1
  replace k1_2 := keep hb1 k1_2
  replace k1_3 := keep hb1 k1_3
  replace k1_4 := keep hb1 k1_4
  replace k1_5 := keep hb1 k1_5
  replace k1_6 := keep hb1 k1_6
  replace k1_7 := keep hb1 k1_7
  replace f0_0 := keepf hb1 (by omega) f0_0
  replace f0_1 := keepf hb1 (by omega) f0_1
  replace f0_2 := keepf hb1 (by omega) f0_2
  replace f0_3 := keepf hb1 (by omega) f0_3
  replace f0_4 := keepf hb1 (by omega) f0_4
  replace f0_5 := keepf hb1 (by omega) f0_5
  replace f0_6 := keepf hb1 (by omega) f0_6
  replace f0_7 := keepf hb1 (by omega) f0_7
  replace f1_0 := keepf hb1 (by omega) f1_0
  replace f1_1 := keepf hb1 (by omega) f1_1
  replace f1_2 := keepf hb1 (by omega) f1_2
  replace f1_3 := keepf hb1 (by omega) f1_3
  replace f1_4 := keepf hb1 (by omega) f1_4
  replace f1_5 := keepf hb1 (by omega) f1_5
  replace f1_6 := keepf hb1 (by omega) f1_6
  replace f1_7 := keepf hb1 (by omega) f1_7
  replace z_ := Nat.lt_of_lt_of_le z_ hb1.size
  replace HB := below_call HB (Nat.le_refl _) hb1
  clear hb1
  clear h
  go_wp2
  refine bodyPost_ret (v := .tuple #[.agg #[.int .i64 0, .int .i64 0, .int .i64 0, .int .i64 0, .bool false, .int .i64 0, .int .i64 0, .int .i64 0], .bool false, .int .i64 270]) (by simp [results, Tryd.results39, go_sem, k1_0, k1_1, k1_2, k1_3, k1_4, k1_5, k1_6, k1_7]) rfl ⟨rfl, ?_⟩
  repeat (first | (with_reducible exact HB) | (with_reducible refine below_drewN' ?_ _) | (with_reducible refine Below.drew ?_) | (with_reducible refine Below.setCell ?_ (by simp <;> omega) _))

set_option maxHeartbeats 4000000 in
set_option maxRecDepth 100000 in
theorem rcr_arg (mq mp xq xp : Int) (dy : Bool) (lf st en at_ : Int) (w : World) (h : BV mq mp xq xp lf st en) (hat : (at_ != en) = true) :
    Calls Tryd.prog 39 #[bud mq mp xq xp dy lf st en, .int .i64 at_] w fun e w' => e = .returned (.tuple #[.agg #[.int .i64 0, .int .i64 0, .int .i64 0, .int .i64 0, .bool false, .int .i64 0, .int .i64 0, .int .i64 0], .bool false, .int .i64 1]) ∧ Below w.heap.size w w' := by
  have HB : Below w.heap.size w ((w.alloc (.cells #[.int .i64 mq, .int .i64 mp, .int .i64 xq, .int .i64 xp, .bool dy, .int .i64 lf, .int .i64 st, .int .i64 en] 30)).alloc (.cells #[.int .i64 0, .int .i64 0, .int .i64 0, .int .i64 0, .bool false, .int .i64 0, .int .i64 0, .int .i64 0] 30)) := (((Below.refl _ w).alloc (by simp) _).alloc (by simp) _)
  have k0_0 : ((w.alloc (.cells #[.int .i64 mq, .int .i64 mp, .int .i64 xq, .int .i64 xp, .bool dy, .int .i64 lf, .int .i64 st, .int .i64 en] 30)).alloc (.cells #[.int .i64 0, .int .i64 0, .int .i64 0, .int .i64 0, .bool false, .int .i64 0, .int .i64 0, .int .i64 0] 30)).cell? ⟨w.heap.size, 0, none⟩ = some (.int .i64 mq) := by simp
  have f0_0 : ((w.alloc (.cells #[.int .i64 mq, .int .i64 mp, .int .i64 xq, .int .i64 xp, .bool dy, .int .i64 lf, .int .i64 st, .int .i64 en] 30)).alloc (.cells #[.int .i64 0, .int .i64 0, .int .i64 0, .int .i64 0, .bool false, .int .i64 0, .int .i64 0, .int .i64 0] 30)).frozen? ⟨w.heap.size, 0, none⟩ = false := by simp only [frozen?_alloc_cells]; exact frozen_beyond _ _ _ (by omega)
  have k0_1 : ((w.alloc (.cells #[.int .i64 mq, .int .i64 mp, .int .i64 xq, .int .i64 xp, .bool dy, .int .i64 lf, .int .i64 st, .int .i64 en] 30)).alloc (.cells #[.int .i64 0, .int .i64 0, .int .i64 0, .int .i64 0, .bool false, .int .i64 0, .int .i64 0, .int .i64 0] 30)).cell? ⟨w.heap.size, 1, none⟩ = some (.int .i64 mp) := by simp
  have f0_1 : ((w.alloc (.cells #[.int .i64 mq, .int .i64 mp, .int .i64 xq, .int .i64 xp, .bool dy, .int .i64 lf, .int .i64 st, .int .i64 en] 30)).alloc (.cells #[.int .i64 0, .int .i64 0, .int .i64 0, .int .i64 0, .bool false, .int .i64 0, .int .i64 0, .int .i64 0] 30)).frozen? ⟨w.heap.size, 1, none⟩ = false := by simp only [frozen?_alloc_cells]; exact frozen_beyond _ _ _ (by omega)
  have k0_2 : ((w.alloc (.cells #[.int .i64 mq, .int .i64 mp, .int .i64 xq, .int .i64 xp, .bool dy, .int .i64 lf, .int .i64 st, .int .i64 en] 30)).alloc (.cells #[.int .i64 0, .int .i64 0, .int .i64 0, .int .i64 0, .bool false, .int .i64 0, .int .i64 0, .int .i64 0] 30)).cell? ⟨w.heap.size, 2, none⟩ = some (.int .i64 xq) := by simp
  have f0_2 : ((w.alloc (.cells #[.int .i64 mq, .int .i64 mp, .int .i64 xq, .int .i64 xp, .bool dy, .int .i64 lf, .int .i64 st, .int .i64 en] 30)).alloc (.cells #[.int .i64 0, .int .i64 0, .int .i64 0, .int .i64 0, .bool false, .int .i64 0, .int .i64 0, .int .i64 0] 30)).frozen? ⟨w.heap.size, 2, none⟩ = false := by simp only [frozen?_alloc_cells]; exact frozen_beyond _ _ _ (by omega)
  have k0_3 : ((w.alloc (.cells #[.int .i64 mq, .int .i64 mp, .int .i64 xq, .int .i64 xp, .bool dy, .int .i64 lf, .int .i64 st, .int .i64 en] 30)).alloc (.cells #[.int .i64 0, .int .i64 0, .int .i64 0, .int .i64 0, .bool false, .int .i64 0, .int .i64 0, .int .i64 0] 30)).cell? ⟨w.heap.size, 3, none⟩ = some (.int .i64 xp) := by simp
  have f0_3 : ((w.alloc (.cells #[.int .i64 mq, .int .i64 mp, .int .i64 xq, .int .i64 xp, .bool dy, .int .i64 lf, .int .i64 st, .int .i64 en] 30)).alloc (.cells #[.int .i64 0, .int .i64 0, .int .i64 0, .int .i64 0, .bool false, .int .i64 0, .int .i64 0, .int .i64 0] 30)).frozen? ⟨w.heap.size, 3, none⟩ = false := by simp only [frozen?_alloc_cells]; exact frozen_beyond _ _ _ (by omega)
  have k0_4 : ((w.alloc (.cells #[.int .i64 mq, .int .i64 mp, .int .i64 xq, .int .i64 xp, .bool dy, .int .i64 lf, .int .i64 st, .int .i64 en] 30)).alloc (.cells #[.int .i64 0, .int .i64 0, .int .i64 0, .int .i64 0, .bool false, .int .i64 0, .int .i64 0, .int .i64 0] 30)).cell? ⟨w.heap.size, 4, none⟩ = some (.bool dy) := by simp
  have f0_4 : ((w.alloc (.cells #[.int .i64 mq, .int .i64 mp, .int .i64 xq, .int .i64 xp, .bool dy, .int .i64 lf, .int .i64 st, .int .i64 en] 30)).alloc (.cells #[.int .i64 0, .int .i64 0, .int .i64 0, .int .i64 0, .bool false, .int .i64 0, .int .i64 0, .int .i64 0] 30)).frozen? ⟨w.heap.size, 4, none⟩ = false := by simp only [frozen?_alloc_cells]; exact frozen_beyond _ _ _ (by omega)
  have k0_5 : ((w.alloc (.cells #[.int .i64 mq, .int .i64 mp, .int .i64 xq, .int .i64 xp, .bool dy, .int .i64 lf, .int .i64 st, .int .i64 en] 30)).alloc (.cells #[.int .i64 0, .int .i64 0, .int .i64 0, .int .i64 0, .bool false, .int .i64 0, .int .i64 0, .int .i64 0] 30)).cell? ⟨w.heap.size, 5, none⟩ = some (.int .i64 lf) := by simp
  have f0_5 : ((w.alloc (.cells #[.int .i64 mq, .int .i64 mp, .int .i64 xq, .int .i64 xp, .bool dy, .int .i64 lf, .int .i64 st, .int .i64 en] 30)).alloc (.cells #[.int .i64 0, .int .i64 0, .int .i64 0, .int .i64 0, .bool false, .int .i64 0, .int .i64 0, .int .i64 0] 30)).frozen? ⟨w.heap.size, 5, none⟩ = false := by simp only [frozen?_alloc_cells]; exact frozen_beyond _ _ _ (by omega)
  have k0_6 : ((w.alloc (.cells #[.int .i64 mq, .int .i64 mp, .int .i64 xq, .int .i64 xp, .bool dy, .int .i64 lf, .int .i64 st, .int .i64 en] 30)).alloc (.cells #[.int .i64 0, .int .i64 0, .int .i64 0, .int .i64 0, .bool false, .int .i64 0, .int .i64 0, .int .i64 0] 30)).cell? ⟨w.heap.size, 6, none⟩ = some (.int .i64 st) := by simp
  have f0_6 : ((w.alloc (.cells #[.int .i64 mq, .int .i64 mp, .int .i64 xq, .int .i64 xp, .bool dy, .int .i64 lf, .int .i64 st, .int .i64 en] 30)).alloc (.cells #[.int .i64 0, .int .i64 0, .int .i64 0, .int .i64 0, .bool false, .int .i64 0, .int .i64 0, .int .i64 0] 30)).frozen? ⟨w.heap.size, 6, none⟩ = false := by simp only [frozen?_alloc_cells]; exact frozen_beyond _ _ _ (by omega)
  have k0_7 : ((w.alloc (.cells #[.int .i64 mq, .int .i64 mp, .int .i64 xq, .int .i64 xp, .bool dy, .int .i64 lf, .int .i64 st, .int .i64 en] 30)).alloc (.cells #[.int .i64 0, .int .i64 0, .int .i64 0, .int .i64 0, .bool false, .int .i64 0, .int .i64 0, .int .i64 0] 30)).cell? ⟨w.heap.size, 7, none⟩ = some (.int .i64 en) := by simp
  have f0_7 : ((w.alloc (.cells #[.int .i64 mq, .int .i64 mp, .int .i64 xq, .int .i64 xp, .bool dy, .int .i64 lf, .int .i64 st, .int .i64 en] 30)).alloc (.cells #[.int .i64 0, .int .i64 0, .int .i64 0, .int .i64 0, .bool false, .int .i64 0, .int .i64 0, .int .i64 0] 30)).frozen? ⟨w.heap.size, 7, none⟩ = false := by simp only [frozen?_alloc_cells]; exact frozen_beyond _ _ _ (by omega)
  have k1_0 : ((w.alloc (.cells #[.int .i64 mq, .int .i64 mp, .int .i64 xq, .int .i64 xp, .bool dy, .int .i64 lf, .int .i64 st, .int .i64 en] 30)).alloc (.cells #[.int .i64 0, .int .i64 0, .int .i64 0, .int .i64 0, .bool false, .int .i64 0, .int .i64 0, .int .i64 0] 30)).cell? ⟨w.heap.size + 1, 0, none⟩ = some (.int .i64 0) := by simp
  have f1_0 : ((w.alloc (.cells #[.int .i64 mq, .int .i64 mp, .int .i64 xq, .int .i64 xp, .bool dy, .int .i64 lf, .int .i64 st, .int .i64 en] 30)).alloc (.cells #[.int .i64 0, .int .i64 0, .int .i64 0, .int .i64 0, .bool false, .int .i64 0, .int .i64 0, .int .i64 0] 30)).frozen? ⟨w.heap.size + 1, 0, none⟩ = false := by simp only [frozen?_alloc_cells]; exact frozen_beyond _ _ _ (by omega)
  have k1_1 : ((w.alloc (.cells #[.int .i64 mq, .int .i64 mp, .int .i64 xq, .int .i64 xp, .bool dy, .int .i64 lf, .int .i64 st, .int .i64 en] 30)).alloc (.cells #[.int .i64 0, .int .i64 0, .int .i64 0, .int .i64 0, .bool false, .int .i64 0, .int .i64 0, .int .i64 0] 30)).cell? ⟨w.heap.size + 1, 1, none⟩ = some (.int .i64 0) := by simp
  have f1_1 : ((w.alloc (.cells #[.int .i64 mq, .int .i64 mp, .int .i64 xq, .int .i64 xp, .bool dy, .int .i64 lf, .int .i64 st, .int .i64 en] 30)).alloc (.cells #[.int .i64 0, .int .i64 0, .int .i64 0, .int .i64 0, .bool false, .int .i64 0, .int .i64 0, .int .i64 0] 30)).frozen? ⟨w.heap.size + 1, 1, none⟩ = false := by simp only [frozen?_alloc_cells]; exact frozen_beyond _ _ _ (by omega)
  have k1_2 : ((w.alloc (.cells #[.int .i64 mq, .int .i64 mp, .int .i64 xq, .int .i64 xp, .bool dy, .int .i64 lf, .int .i64 st, .int .i64 en] 30)).alloc (.cells #[.int .i64 0, .int .i64 0, .int .i64 0, .int .i64 0, .bool false, .int .i64 0, .int .i64 0, .int .i64 0] 30)).cell? ⟨w.heap.size + 1, 2, none⟩ = some (.int .i64 0) := by simp
  have f1_2 : ((w.alloc (.cells #[.int .i64 mq, .int .i64 mp, .int .i64 xq, .int .i64 xp, .bool dy, .int .i64 lf, .int .i64 st, .int .i64 en] 30)).alloc (.cells #[.int .i64 0, .int .i64 0, .int .i64 0, .int .i64 0, .bool false, .int .i64 0, .int .i64 0, .int .i64 0] 30)).frozen? ⟨w.heap.size + 1, 2, none⟩ = false := by simp only [frozen?_alloc_cells]; exact frozen_beyond _ _ _ (by omega)
  have k1_3 : ((w.alloc (.cells #[.int .i64 mq, .int .i64 mp, .int .i64 xq, .int .i64 xp, .bool dy, .int .i64 lf, .int .i64 st, .int .i64 en] 30)).alloc (.cells #[.int .i64 0, .int .i64 0, .int .i64 0, .int .i64 0, .bool false, .int .i64 0, .int .i64 0, .int .i64 0] 30)).cell? ⟨w.heap.size + 1, 3, none⟩ = some (.int .i64 0) := by simp
  have f1_3 : ((w.alloc (.cells #[.int .i64 mq, .int .i64 mp, .int .i64 xq, .int .i64 xp, .bool dy, .int .i64 lf, .int .i64 st, .int .i64 en] 30)).alloc (.cells #[.int .i64 0, .int .i64 0, .int .i64 0, .int .i64 0, .bool false, .int .i64 0, .int .i64 0, .int .i64 0] 30)).frozen? ⟨w.heap.size + 1, 3, none⟩ = false := by simp only [frozen?_alloc_cells]; exact frozen_beyond _ _ _ (by omega)
  have k1_4 : ((w.alloc (.cells #[.int .i64 mq, .int .i64 mp, .int .i64 xq, .int .i64 xp, .bool dy, .int .i64 lf, .int .i64 st, .int .i64 en] 30)).alloc (.cells #[.int .i64 0, .int .i64 0, .int .i64 0, .int .i64 0, .bool false, .int .i64 0, .int .i64 0, .int .i64 0] 30)).cell? ⟨w.heap.size + 1, 4, none⟩ = some (.bool false) := by simp
  have f1_4 : ((w.alloc (.cells #[.int .i64 mq, .int .i64 mp, .int .i64 xq, .int .i64 xp, .bool dy, .int .i64 lf, .int .i64 st, .int .i64 en] 30)).alloc (.cells #[.int .i64 0, .int .i64 0, .int .i64 0, .int .i64 0, .bool false, .int .i64 0, .int .i64 0, .int .i64 0] 30)).frozen? ⟨w.heap.size + 1, 4, none⟩ = false := by simp only [frozen?_alloc_cells]; exact frozen_beyond _ _ _ (by omega)
  have k1_5 : ((w.alloc (.cells #[.int .i64 mq, .int .i64 mp, .int .i64 xq, .int .i64 xp, .bool dy, .int .i64 lf, .int .i64 st, .int .i64 en] 30)).alloc (.cells #[.int .i64 0, .int .i64 0, .int .i64 0, .int .i64 0, .bool false, .int .i64 0, .int .i64 0, .int .i64 0] 30)).cell? ⟨w.heap.size + 1, 5, none⟩ = some (.int .i64 0) := by simp
  have f1_5 : ((w.alloc (.cells #[.int .i64 mq, .int .i64 mp, .int .i64 xq, .int .i64 xp, .bool dy, .int .i64 lf, .int .i64 st, .int .i64 en] 30)).alloc (.cells #[.int .i64 0, .int .i64 0, .int .i64 0, .int .i64 0, .bool false, .int .i64 0, .int .i64 0, .int .i64 0] 30)).frozen? ⟨w.heap.size + 1, 5, none⟩ = false := by simp only [frozen?_alloc_cells]; exact frozen_beyond _ _ _ (by omega)
  have k1_6 : ((w.alloc (.cells #[.int .i64 mq, .int .i64 mp, .int .i64 xq, .int .i64 xp, .bool dy, .int .i64 lf, .int .i64 st, .int .i64 en] 30)).alloc (.cells #[.int .i64 0, .int .i64 0, .int .i64 0, .int .i64 0, .bool false, .int .i64 0, .int .i64 0, .int .i64 0] 30)).cell? ⟨w.heap.size + 1, 6, none⟩ = some (.int .i64 0) := by simp
  have f1_6 : ((w.alloc (.cells #[.int .i64 mq, .int .i64 mp, .int .i64 xq, .int .i64 xp, .bool dy, .int .i64 lf, .int .i64 st, .int .i64 en] 30)).alloc (.cells #[.int .i64 0, .int .i64 0, .int .i64 0, .int .i64 0, .bool false, .int .i64 0, .int .i64 0, .int .i64 0] 30)).frozen? ⟨w.heap.size + 1, 6, none⟩ = false := by simp only [frozen?_alloc_cells]; exact frozen_beyond _ _ _ (by omega)
  have k1_7 : ((w.alloc (.cells #[.int .i64 mq, .int .i64 mp, .int .i64 xq, .int .i64 xp, .bool dy, .int .i64 lf, .int .i64 st, .int .i64 en] 30)).alloc (.cells #[.int .i64 0, .int .i64 0, .int .i64 0, .int .i64 0, .bool false, .int .i64 0, .int .i64 0, .int .i64 0] 30)).cell? ⟨w.heap.size + 1, 7, none⟩ = some (.int .i64 0) := by simp
  have f1_7 : ((w.alloc (.cells #[.int .i64 mq, .int .i64 mp, .int .i64 xq, .int .i64 xp, .bool dy, .int .i64 lf, .int .i64 st, .int .i64 en] 30)).alloc (.cells #[.int .i64 0, .int .i64 0, .int .i64 0, .int .i64 0, .bool false, .int .i64 0, .int .i64 0, .int .i64 0] 30)).frozen? ⟨w.heap.size + 1, 7, none⟩ = false := by simp only [frozen?_alloc_cells]; exact frozen_beyond _ _ _ (by omega)
  have z_ : w.heap.size + 1 < ((w.alloc (.cells #[.int .i64 mq, .int .i64 mp, .int .i64 xq, .int .i64 xp, .bool dy, .int .i64 lf, .int .i64 st, .int .i64 en] 30)).alloc (.cells #[.int .i64 0, .int .i64 0, .int .i64 0, .int .i64 0, .bool false, .int .i64 0, .int .i64 0, .int .i64 0] 30)).heap.size := by simp
  go_enter Tryd.func39, Tryd.ntmps39
  go_wp2_with fail
  refine (rbvalid_ok mq mp xq xp dy lf st en _ h).mono ?_
  rintro e w1 ⟨rfl, hb1⟩
  replace k0_0 := keep hb1 k0_0
  replace k0_1 := keep hb1 k0_1
  replace k0_2 := keep hb1 k0_2
  replace k0_3 := keep hb1 k0_3
  replace k0_4 := keep hb1 k0_4
  replace k0_5 := keep hb1 k0_5
  replace k0_6 := keep hb1 k0_6
  replace k0_7 := keep hb1 k0_7
  replace k1_0 := keep hb1 k1_0
  replace k1_1 := keep hb1 k1_1
  replace k1_2 := keep hb1 k1_2
  replace k1_3 := keep hb1 k1_3
  replace k1_4 := keep hb1 k1_4
  replace k1_5 := keep hb1 k1_5
  replace k1_6 := keep hb1 k1_6
  replace k1_7 := keep hb1 k1_7
  replace f0_0 := keepf hb1 (by omega) f0_0
  replace f0_1 := keepf hb1 (by omega) f0_1
  replace f0_2 := keepf hb1 (by omega) f0_2
  replace f0_3 := keepf hb1 (by omega) f0_3
  replace f0_4 := keepf hb1 (by omega) f0_4
  replace f0_5 := keepf hb1 (by omega) f0_5
  replace f0_6 := keepf hb1 (by omega) f0_6
  replace f0_7 := keepf hb1 (by omega) f0_7
  replace f1_0 := keepf hb1 (by omega) f1_0
  replace f1_1 := keepf hb1 (by omega) f1_1
  replace f1_2 := keepf hb1 (by omega) f1_2
  replace f1_3 := keepf hb1 (by omega) f1_3
  replace f1_4 := keepf hb1 (by omega) f1_4
  replace f1_5 := keepf hb1 (by omega) f1_5
  replace f1_6 := keepf hb1 (by omega) f1_6
  replace f1_7 := keepf hb1 (by omega) f1_7
  replace z_ := Nat.lt_of_lt_of_le z_ hb1.size
  replace HB := below_call HB (Nat.le_refl _) hb1
  clear hb1
  clear h
  go_wp2
  refine bodyPost_ret (v := .tuple #[.agg #[.int .i64 0, .int .i64 0, .int .i64 0, .int .i64 0, .bool false, .int .i64 0, .int .i64 0, .int .i64 0], .bool false, .int .i64 1]) (by simp [results, Tryd.results39, go_sem, k1_0, k1_1, k1_2, k1_3, k1_4, k1_5, k1_6, k1_7]) rfl ⟨rfl, ?_⟩
  repeat (first | (with_reducible exact HB) | (with_reducible refine below_drewN' ?_ _) | (with_reducible refine Below.drew ?_) | (with_reducible refine Below.setCell ?_ (by simp <;> omega) _))

set_option maxHeartbeats 4000000 in
set_option maxRecDepth 100000 in
theorem rcr_time (mq mp xq xp : Int) (dy : Bool) (lf st en : Int) (w : World) (h : BV mq mp xq xp lf st en) (ht : 1073741824 < en) :
    Calls Tryd.prog 39 #[bud mq mp xq xp dy lf st en, .int .i64 en] w fun e w' => e = .returned (.tuple #[.agg #[.int .i64 0, .int .i64 0, .int .i64 0, .int .i64 0, .bool false, .int .i64 0, .int .i64 0, .int .i64 0], .bool false, .int .i64 60]) ∧ Below w.heap.size w w' := by
  have ht1 : decide (1073741824 < en) = true := by simp; omega
  have HB : Below w.heap.size w ((w.alloc (.cells #[.int .i64 mq, .int .i64 mp, .int .i64 xq, .int .i64 xp, .bool dy, .int .i64 lf, .int .i64 st, .int .i64 en] 30)).alloc (.cells #[.int .i64 0, .int .i64 0, .int .i64 0, .int .i64 0, .bool false, .int .i64 0, .int .i64 0, .int .i64 0] 30)) := (((Below.refl _ w).alloc (by simp) _).alloc (by simp) _)
  have k0_0 : ((w.alloc (.cells #[.int .i64 mq, .int .i64 mp, .int .i64 xq, .int .i64 xp, .bool dy, .int .i64 lf, .int .i64 st, .int .i64 en] 30)).alloc (.cells #[.int .i64 0, .int .i64 0, .int .i64 0, .int .i64 0, .bool false, .int .i64 0, .int .i64 0, .int .i64 0] 30)).cell? ⟨w.heap.size, 0, none⟩ = some (.int .i64 mq) := by simp
  have f0_0 : ((w.alloc (.cells #[.int .i64 mq, .int .i64 mp, .int .i64 xq, .int .i64 xp, .bool dy, .int .i64 lf, .int .i64 st, .int .i64 en] 30)).alloc (.cells #[.int .i64 0, .int .i64 0, .int .i64 0, .int .i64 0, .bool false, .int .i64 0, .int .i64 0, .int .i64 0] 30)).frozen? ⟨w.heap.size, 0, none⟩ = false := by simp only [frozen?_alloc_cells]; exact frozen_beyond _ _ _ (by omega)
  have k0_1 : ((w.alloc (.cells #[.int .i64 mq, .int .i64 mp, .int .i64 xq, .int .i64 xp, .bool dy, .int .i64 lf, .int .i64 st, .int .i64 en] 30)).alloc (.cells #[.int .i64 0, .int .i64 0, .int .i64 0, .int .i64 0, .bool false, .int .i64 0, .int .i64 0, .int .i64 0] 30)).cell? ⟨w.heap.size, 1, none⟩ = some (.int .i64 mp) := by simp
  have f0_1 : ((w.alloc (.cells #[.int .i64 mq, .int .i64 mp, .int .i64 xq, .int .i64 xp, .bool dy, .int .i64 lf, .int .i64 st, .int .i64 en] 30)).alloc (.cells #[.int .i64 0, .int .i64 0, .int .i64 0, .int .i64 0, .bool false, .int .i64 0, .int .i64 0, .int .i64 0] 30)).frozen? ⟨w.heap.size, 1, none⟩ = false := by simp only [frozen?_alloc_cells]; exact frozen_beyond _ _ _ (by omega)
  have k0_2 : ((w.alloc (.cells #[.int .i64 mq, .int .i64 mp, .int .i64 xq, .int .i64 xp, .bool dy, .int .i64 lf, .int .i64 st, .int .i64 en] 30)).alloc (.cells #[.int .i64 0, .int .i64 0, .int .i64 0, .int .i64 0, .bool false, .int .i64 0, .int .i64 0, .int .i64 0] 30)).cell? ⟨w.heap.size, 2, none⟩ = some (.int .i64 xq) := by simp
  have f0_2 : ((w.alloc (.cells #[.int .i64 mq, .int .i64 mp, .int .i64 xq, .int .i64 xp, .bool dy, .int .i64 lf, .int .i64 st, .int .i64 en] 30)).alloc (.cells #[.int .i64 0, .int .i64 0, .int .i64 0, .int .i64 0, .bool false, .int .i64 0, .int .i64 0, .int .i64 0] 30)).frozen? ⟨w.heap.size, 2, none⟩ = false := by simp only [frozen?_alloc_cells]; exact frozen_beyond _ _ _ (by omega)
  have k0_3 : ((w.alloc (.cells #[.int .i64 mq, .int .i64 mp, .int .i64 xq, .int .i64 xp, .bool dy, .int .i64 lf, .int .i64 st, .int .i64 en] 30)).alloc (.cells #[.int .i64 0, .int .i64 0, .int .i64 0, .int .i64 0, .bool false, .int .i64 0, .int .i64 0, .int .i64 0] 30)).cell? ⟨w.heap.size, 3, none⟩ = some (.int .i64 xp) := by simp
  have f0_3 : ((w.alloc (.cells #[.int .i64 mq, .int .i64 mp, .int .i64 xq, .int .i64 xp, .bool dy, .int .i64 lf, .int .i64 st, .int .i64 en] 30)).alloc (.cells #[.int .i64 0, .int .i64 0, .int .i64 0, .int .i64 0, .bool false, .int .i64 0, .int .i64 0, .int .i64 0] 30)).frozen? ⟨w.heap.size, 3, none⟩ = false := by simp only [frozen?_alloc_cells]; exact frozen_beyond _ _ _ (by omega)
  have k0_4 : ((w.alloc (.cells #[.int .i64 mq, .int .i64 mp, .int .i64 xq, .int .i64 xp, .bool dy, .int .i64 lf, .int .i64 st, .int .i64 en] 30)).alloc (.cells #[.int .i64 0, .int .i64 0, .int .i64 0, .int .i64 0, .bool false, .int .i64 0, .int .i64 0, .int .i64 0] 30)).cell? ⟨w.heap.size, 4, none⟩ = some (.bool dy) := by simp
  have f0_4 : ((w.alloc (.cells #[.int .i64 mq, .int .i64 mp, .int .i64 xq, .int .i64 xp, .bool dy, .int .i64 lf, .int .i64 st, .int .i64 en] 30)).alloc (.cells #[.int .i64 0, .int .i64 0, .int .i64 0, .int .i64 0, .bool false, .int .i64 0, .int .i64 0, .int .i64 0] 30)).frozen? ⟨w.heap.size, 4, none⟩ = false := by simp only [frozen?_alloc_cells]; exact frozen_beyond _ _ _ (by omega)
  have k0_5 : ((w.alloc (.cells #[.int .i64 mq, .int .i64 mp, .int .i64 xq, .int .i64 xp, .bool dy, .int .i64 lf, .int .i64 st, .int .i64 en] 30)).alloc (.cells #[.int .i64 0, .int .i64 0, .int .i64 0, .int .i64 0, .bool false, .int .i64 0, .int .i64 0, .int .i64 0] 30)).cell? ⟨w.heap.size, 5, none⟩ = some (.int .i64 lf) := by simp
  have f0_5 : ((w.alloc (.cells #[.int .i64 mq, .int .i64 mp, .int .i64 xq, .int .i64 xp, .bool dy, .int .i64 lf, .int .i64 st, .int .i64 en] 30)).alloc (.cells #[.int .i64 0, .int .i64 0, .int .i64 0, .int .i64 0, .bool false, .int .i64 0, .int .i64 0, .int .i64 0] 30)).frozen? ⟨w.heap.size, 5, none⟩ = false := by simp only [frozen?_alloc_cells]; exact frozen_beyond _ _ _ (by omega)
  have k0_6 : ((w.alloc (.cells #[.int .i64 mq, .int .i64 mp, .int .i64 xq, .int .i64 xp, .bool dy, .int .i64 lf, .int .i64 st, .int .i64 en] 30)).alloc (.cells #[.int .i64 0, .int .i64 0, .int .i64 0, .int .i64 0, .bool false, .int .i64 0, .int .i64 0, .int .i64 0] 30)).cell? ⟨w.heap.size, 6, none⟩ = some (.int .i64 st) := by simp
  have f0_6 : ((w.alloc (.cells #[.int .i64 mq, .int .i64 mp, .int .i64 xq, .int .i64 xp, .bool dy, .int .i64 lf, .int .i64 st, .int .i64 en] 30)).alloc (.cells #[.int .i64 0, .int .i64 0, .int .i64 0, .int .i64 0, .bool false, .int .i64 0, .int .i64 0, .int .i64 0] 30)).frozen? ⟨w.heap.size, 6, none⟩ = false := by simp only [frozen?_alloc_cells]; exact frozen_beyond _ _ _ (by omega)
  have k0_7 : ((w.alloc (.cells #[.int .i64 mq, .int .i64 mp, .int .i64 xq, .int .i64 xp, .bool dy, .int .i64 lf, .int .i64 st, .int .i64 en] 30)).alloc (.cells #[.int .i64 0, .int .i64 0, .int .i64 0, .int .i64 0, .bool false, .int .i64 0, .int .i64 0, .int .i64 0] 30)).cell? ⟨w.heap.size, 7, none⟩ = some (.int .i64 en) := by simp
  have f0_7 : ((w.alloc (.cells #[.int .i64 mq, .int .i64 mp, .int .i64 xq, .int .i64 xp, .bool dy, .int .i64 lf, .int .i64 st, .int .i64 en] 30)).alloc (.cells #[.int .i64 0, .int .i64 0, .int .i64 0, .int .i64 0, .bool false, .int .i64 0, .int .i64 0, .int .i64 0] 30)).frozen? ⟨w.heap.size, 7, none⟩ = false := by simp only [frozen?_alloc_cells]; exact frozen_beyond _ _ _ (by omega)
  have k1_0 : ((w.alloc (.cells #[.int .i64 mq, .int .i64 mp, .int .i64 xq, .int .i64 xp, .bool dy, .int .i64 lf, .int .i64 st, .int .i64 en] 30)).alloc (.cells #[.int .i64 0, .int .i64 0, .int .i64 0, .int .i64 0, .bool false, .int .i64 0, .int .i64 0, .int .i64 0] 30)).cell? ⟨w.heap.size + 1, 0, none⟩ = some (.int .i64 0) := by simp
  have f1_0 : ((w.alloc (.cells #[.int .i64 mq, .int .i64 mp, .int .i64 xq, .int .i64 xp, .bool dy, .int .i64 lf, .int .i64 st, .int .i64 en] 30)).alloc (.cells #[.int .i64 0, .int .i64 0, .int .i64 0, .int .i64 0, .bool false, .int .i64 0, .int .i64 0, .int .i64 0] 30)).frozen? ⟨w.heap.size + 1, 0, none⟩ = false := by simp only [frozen?_alloc_cells]; exact frozen_beyond _ _ _ (by omega)
  have k1_1 : ((w.alloc (.cells #[.int .i64 mq, .int .i64 mp, .int .i64 xq, .int .i64 xp, .bool dy, .int .i64 lf, .int .i64 st, .int .i64 en] 30)).alloc (.cells #[.int .i64 0, .int .i64 0, .int .i64 0, .int .i64 0, .bool false, .int .i64 0, .int .i64 0, .int .i64 0] 30)).cell? ⟨w.heap.size + 1, 1, none⟩ = some (.int .i64 0) := by simp
  have f1_1 : ((w.alloc (.cells #[.int .i64 mq, .int .i64 mp, .int .i64 xq, .int .i64 xp, .bool dy, .int .i64 lf, .int .i64 st, .int .i64 en] 30)).alloc (.cells #[.int .i64 0, .int .i64 0, .int .i64 0, .int .i64 0, .bool false, .int .i64 0, .int .i64 0, .int .i64 0] 30)).frozen? ⟨w.heap.size + 1, 1, none⟩ = false := by simp only [frozen?_alloc_cells]; exact frozen_beyond _ _ _ (by omega)
  have k1_2 : ((w.alloc (.cells #[.int .i64 mq, .int .i64 mp, .int .i64 xq, .int .i64 xp, .bool dy, .int .i64 lf, .int .i64 st, .int .i64 en] 30)).alloc (.cells #[.int .i64 0, .int .i64 0, .int .i64 0, .int .i64 0, .bool false, .int .i64 0, .int .i64 0, .int .i64 0] 30)).cell? ⟨w.heap.size + 1, 2, none⟩ = some (.int .i64 0) := by simp
  have f1_2 : ((w.alloc (.cells #[.int .i64 mq, .int .i64 mp, .int .i64 xq, .int .i64 xp, .bool dy, .int .i64 lf, .int .i64 st, .int .i64 en] 30)).alloc (.cells #[.int .i64 0, .int .i64 0, .int .i64 0, .int .i64 0, .bool false, .int .i64 0, .int .i64 0, .int .i64 0] 30)).frozen? ⟨w.heap.size + 1, 2, none⟩ = false := by simp only [frozen?_alloc_cells]; exact frozen_beyond _ _ _ (by omega)
  have k1_3 : ((w.alloc (.cells #[.int .i64 mq, .int .i64 mp, .int .i64 xq, .int .i64 xp, .bool dy, .int .i64 lf, .int .i64 st, .int .i64 en] 30)).alloc (.cells #[.int .i64 0, .int .i64 0, .int .i64 0, .int .i64 0, .bool false, .int .i64 0, .int .i64 0, .int .i64 0] 30)).cell? ⟨w.heap.size + 1, 3, none⟩ = some (.int .i64 0) := by simp
  have f1_3 : ((w.alloc (.cells #[.int .i64 mq, .int .i64 mp, .int .i64 xq, .int .i64 xp, .bool dy, .int .i64 lf, .int .i64 st, .int .i64 en] 30)).alloc (.cells #[.int .i64 0, .int .i64 0, .int .i64 0, .int .i64 0, .bool false, .int .i64 0, .int .i64 0, .int .i64 0] 30)).frozen? ⟨w.heap.size + 1, 3, none⟩ = false := by simp only [frozen?_alloc_cells]; exact frozen_beyond _ _ _ (by omega)
  have k1_4 : ((w.alloc (.cells #[.int .i64 mq, .int .i64 mp, .int .i64 xq, .int .i64 xp, .bool dy, .int .i64 lf, .int .i64 st, .int .i64 en] 30)).alloc (.cells #[.int .i64 0, .int .i64 0, .int .i64 0, .int .i64 0, .bool false, .int .i64 0, .int .i64 0, .int .i64 0] 30)).cell? ⟨w.heap.size + 1, 4, none⟩ = some (.bool false) := by simp
  have f1_4 : ((w.alloc (.cells #[.int .i64 mq, .int .i64 mp, .int .i64 xq, .int .i64 xp, .bool dy, .int .i64 lf, .int .i64 st, .int .i64 en] 30)).alloc (.cells #[.int .i64 0, .int .i64 0, .int .i64 0, .int .i64 0, .bool false, .int .i64 0, .int .i64 0, .int .i64 0] 30)).frozen? ⟨w.heap.size + 1, 4, none⟩ = false := by simp only [frozen?_alloc_cells]; exact frozen_beyond _ _ _ (by omega)
  have k1_5 : ((w.alloc (.cells #[.int .i64 mq, .int .i64 mp, .int .i64 xq, .int .i64 xp, .bool dy, .int .i64 lf, .int .i64 st, .int .i64 en] 30)).alloc (.cells #[.int .i64 0, .int .i64 0, .int .i64 0, .int .i64 0, .bool false, .int .i64 0, .int .i64 0, .int .i64 0] 30)).cell? ⟨w.heap.size + 1, 5, none⟩ = some (.int .i64 0) := by simp
  have f1_5 : ((w.alloc (.cells #[.int .i64 mq, .int .i64 mp, .int .i64 xq, .int .i64 xp, .bool dy, .int .i64 lf, .int .i64 st, .int .i64 en] 30)).alloc (.cells #[.int .i64 0, .int .i64 0, .int .i64 0, .int .i64 0, .bool false, .int .i64 0, .int .i64 0, .int .i64 0] 30)).frozen? ⟨w.heap.size + 1, 5, none⟩ = false := by simp only [frozen?_alloc_cells]; exact frozen_beyond _ _ _ (by omega)
  have k1_6 : ((w.alloc (.cells #[.int .i64 mq, .int .i64 mp, .int .i64 xq, .int .i64 xp, .bool dy, .int .i64 lf, .int .i64 st, .int .i64 en] 30)).alloc (.cells #[.int .i64 0, .int .i64 0, .int .i64 0, .int .i64 0, .bool false, .int .i64 0, .int .i64 0, .int .i64 0] 30)).cell? ⟨w.heap.size + 1, 6, none⟩ = some (.int .i64 0) := by simp
  have f1_6 : ((w.alloc (.cells #[.int .i64 mq, .int .i64 mp, .int .i64 xq, .int .i64 xp, .bool dy, .int .i64 lf, .int .i64 st, .int .i64 en] 30)).alloc (.cells #[.int .i64 0, .int .i64 0, .int .i64 0, .int .i64 0, .bool false, .int .i64 0, .int .i64 0, .int .i64 0] 30)).frozen? ⟨w.heap.size + 1, 6, none⟩ = false := by simp only [frozen?_alloc_cells]; exact frozen_beyond _ _ _ (by omega)
  have k1_7 : ((w.alloc (.cells #[.int .i64 mq, .int .i64 mp, .int .i64 xq, .int .i64 xp, .bool dy, .int .i64 lf, .int .i64 st, .int .i64 en] 30)).alloc (.cells #[.int .i64 0, .int .i64 0, .int .i64 0, .int .i64 0, .bool false, .int .i64 0, .int .i64 0, .int .i64 0] 30)).cell? ⟨w.heap.size + 1, 7, none⟩ = some (.int .i64 0) := by simp
  have f1_7 : ((w.alloc (.cells #[.int .i64 mq, .int .i64 mp, .int .i64 xq, .int .i64 xp, .bool dy, .int .i64 lf, .int .i64 st, .int .i64 en] 30)).alloc (.cells #[.int .i64 0, .int .i64 0, .int .i64 0, .int .i64 0, .bool false, .int .i64 0, .int .i64 0, .int .i64 0] 30)).frozen? ⟨w.heap.size + 1, 7, none⟩ = false := by simp only [frozen?_alloc_cells]; exact frozen_beyond _ _ _ (by omega)
  have z_ : w.heap.size + 1 < ((w.alloc (.cells #[.int .i64 mq, .int .i64 mp, .int .i64 xq, .int .i64 xp, .bool dy, .int .i64 lf, .int .i64 st, .int .i64 en] 30)).alloc (.cells #[.int .i64 0, .int .i64 0, .int .i64 0, .int .i64 0, .bool false, .int .i64 0, .int .i64 0, .int .i64 0] 30)).heap.size := by simp
  go_enter Tryd.func39, Tryd.ntmps39
  go_wp2_with fail
  refine (rbvalid_ok mq mp xq xp dy lf st en _ h).mono ?_
  rintro e w1 ⟨rfl, hb1⟩
  replace k0_0 := keep hb1 k0_0
  replace k0_1 := keep hb1 k0_1
  replace k0_2 := keep hb1 k0_2
  replace k0_3 := keep hb1 k0_3
  replace k0_4 := keep hb1 k0_4
  replace k0_5 := keep hb1 k0_5
  replace k0_6 := keep hb1 k0_6
  replace k0_7 := keep hb1 k0_7
  replace k1_0 := keep hb1 k1_0
  replace k1_1 := keep hb1 k1_1
  replace k1_2 := keep hb1 k1_2
  replace k1_3 := keep hb1 k1_3
  replace k1_4 := keep hb1 k1_4
  replace k1_5 := keep hb1 k1_5
  replace k1_6 := keep hb1 k1_6
  replace k1_7 := keep hb1 k1_7
  replace f0_0 := keepf hb1 (by omega) f0_0
  replace f0_1 := keepf hb1 (by omega) f0_1
  replace f0_2 := keepf hb1 (by omega) f0_2
  replace f0_3 := keepf hb1 (by omega) f0_3
  replace f0_4 := keepf hb1 (by omega) f0_4
  replace f0_5 := keepf hb1 (by omega) f0_5
  replace f0_6 := keepf hb1 (by omega) f0_6
  replace f0_7 := keepf hb1 (by omega) f0_7
  replace f1_0 := keepf hb1 (by omega) f1_0
  replace f1_1 := keepf hb1 (by omega) f1_1
  replace f1_2 := keepf hb1 (by omega) f1_2
  replace f1_3 := keepf hb1 (by omega) f1_3
  replace f1_4 := keepf hb1 (by omega) f1_4
  replace f1_5 := keepf hb1 (by omega) f1_5
  replace f1_6 := keepf hb1 (by omega) f1_6
  replace f1_7 := keepf hb1 (by omega) f1_7
  replace z_ := Nat.lt_of_lt_of_le z_ hb1.size
  replace HB := below_call HB (Nat.le_refl _) hb1
  clear hb1
  clear h
  go_wp2
  refine bodyPost_ret (v := .tuple #[.agg #[.int .i64 0, .int .i64 0, .int .i64 0, .int .i64 0, .bool false, .int .i64 0, .int .i64 0, .int .i64 0], .bool false, .int .i64 60]) (by simp [results, Tryd.results39, go_sem, k1_0, k1_1, k1_2, k1_3, k1_4, k1_5, k1_6, k1_7]) rfl ⟨rfl, ?_⟩
  repeat (first | (with_reducible exact HB) | (with_reducible refine below_drewN' ?_ _) | (with_reducible refine Below.drew ?_) | (with_reducible refine Below.setCell ?_ (by simp <;> omega) _))

set_option maxHeartbeats 4000000 in
set_option maxRecDepth 100000 in
theorem rcr_die (mq mp xq xp : Int) (lf st en : Int) (w : World) (h : BV mq mp xq xp lf st en) (ht : en ≤ 1073741824) :
    Calls Tryd.prog 39 #[bud mq mp xq xp true lf st en, .int .i64 en] w fun e w' => e = .returned (.tuple #[.agg #[.int .i64 0, .int .i64 0, .int .i64 0, .int .i64 0, .bool false, .int .i64 0, .int .i64 0, .int .i64 0], .bool true, .int .i64 0]) ∧ Below w.heap.size w w' := by
  have ht1 : decide (1073741824 < en) = false := by simp; omega
  have HB : Below w.heap.size w ((w.alloc (.cells #[.int .i64 mq, .int .i64 mp, .int .i64 xq, .int .i64 xp, .bool true, .int .i64 lf, .int .i64 st, .int .i64 en] 30)).alloc (.cells #[.int .i64 0, .int .i64 0, .int .i64 0, .int .i64 0, .bool false, .int .i64 0, .int .i64 0, .int .i64 0] 30)) := (((Below.refl _ w).alloc (by simp) _).alloc (by simp) _)
  have k0_0 : ((w.alloc (.cells #[.int .i64 mq, .int .i64 mp, .int .i64 xq, .int .i64 xp, .bool true, .int .i64 lf, .int .i64 st, .int .i64 en] 30)).alloc (.cells #[.int .i64 0, .int .i64 0, .int .i64 0, .int .i64 0, .bool false, .int .i64 0, .int .i64 0, .int .i64 0] 30)).cell? ⟨w.heap.size, 0, none⟩ = some (.int .i64 mq) := by simp
  have f0_0 : ((w.alloc (.cells #[.int .i64 mq, .int .i64 mp, .int .i64 xq, .int .i64 xp, .bool true, .int .i64 lf, .int .i64 st, .int .i64 en] 30)).alloc (.cells #[.int .i64 0, .int .i64 0, .int .i64 0, .int .i64 0, .bool false, .int .i64 0, .int .i64 0, .int .i64 0] 30)).frozen? ⟨w.heap.size, 0, none⟩ = false := by simp only [frozen?_alloc_cells]; exact frozen_beyond _ _ _ (by omega)
  have k0_1 : ((w.alloc (.cells #[.int .i64 mq, .int .i64 mp, .int .i64 xq, .int .i64 xp, .bool true, .int .i64 lf, .int .i64 st, .int .i64 en] 30)).alloc (.cells #[.int .i64 0, .int .i64 0, .int .i64 0, .int .i64 0, .bool false, .int .i64 0, .int .i64 0, .int .i64 0] 30)).cell? ⟨w.heap.size, 1, none⟩ = some (.int .i64 mp) := by simp
  have f0_1 : ((w.alloc (.cells #[.int .i64 mq, .int .i64 mp, .int .i64 xq, .int .i64 xp, .bool true, .int .i64 lf, .int .i64 st, .int .i64 en] 30)).alloc (.cells #[.int .i64 0, .int .i64 0, .int .i64 0, .int .i64 0, .bool false, .int .i64 0, .int .i64 0, .int .i64 0] 30)).frozen? ⟨w.heap.size, 1, none⟩ = false := by simp only [frozen?_alloc_cells]; exact frozen_beyond _ _ _ (by omega)
  have k0_2 : ((w.alloc (.cells #[.int .i64 mq, .int .i64 mp, .int .i64 xq, .int .i64 xp, .bool true, .int .i64 lf, .int .i64 st, .int .i64 en] 30)).alloc (.cells #[.int .i64 0, .int .i64 0, .int .i64 0, .int .i64 0, .bool false, .int .i64 0, .int .i64 0, .int .i64 0] 30)).cell? ⟨w.heap.size, 2, none⟩ = some (.int .i64 xq) := by simp
  have f0_2 : ((w.alloc (.cells #[.int .i64 mq, .int .i64 mp, .int .i64 xq, .int .i64 xp, .bool true, .int .i64 lf, .int .i64 st, .int .i64 en] 30)).alloc (.cells #[.int .i64 0, .int .i64 0, .int .i64 0, .int .i64 0, .bool false, .int .i64 0, .int .i64 0, .int .i64 0] 30)).frozen? ⟨w.heap.size, 2, none⟩ = false := by simp only [frozen?_alloc_cells]; exact frozen_beyond _ _ _ (by omega)
  have k0_3 : ((w.alloc (.cells #[.int .i64 mq, .int .i64 mp, .int .i64 xq, .int .i64 xp, .bool true, .int .i64 lf, .int .i64 st, .int .i64 en] 30)).alloc (.cells #[.int .i64 0, .int .i64 0, .int .i64 0, .int .i64 0, .bool false, .int .i64 0, .int .i64 0, .int .i64 0] 30)).cell? ⟨w.heap.size, 3, none⟩ = some (.int .i64 xp) := by simp
  have f0_3 : ((w.alloc (.cells #[.int .i64 mq, .int .i64 mp, .int .i64 xq, .int .i64 xp, .bool true, .int .i64 lf, .int .i64 st, .int .i64 en] 30)).alloc (.cells #[.int .i64 0, .int .i64 0, .int .i64 0, .int .i64 0, .bool false, .int .i64 0, .int .i64 0, .int .i64 0] 30)).frozen? ⟨w.heap.size, 3, none⟩ = false := by simp only [frozen?_alloc_cells]; exact frozen_beyond _ _ _ (by omega)
  have k0_4 : ((w.alloc (.cells #[.int .i64 mq, .int .i64 mp, .int .i64 xq, .int .i64 xp, .bool true, .int .i64 lf, .int .i64 st, .int .i64 en] 30)).alloc (.cells #[.int .i64 0, .int .i64 0, .int .i64 0, .int .i64 0, .bool false, .int .i64 0, .int .i64 0, .int .i64 0] 30)).cell? ⟨w.heap.size, 4, none⟩ = some (.bool true) := by simp
  have f0_4 : ((w.alloc (.cells #[.int .i64 mq, .int .i64 mp, .int .i64 xq, .int .i64 xp, .bool true, .int .i64 lf, .int .i64 st, .int .i64 en] 30)).alloc (.cells #[.int .i64 0, .int .i64 0, .int .i64 0, .int .i64 0, .bool false, .int .i64 0, .int .i64 0, .int .i64 0] 30)).frozen? ⟨w.heap.size, 4, none⟩ = false := by simp only [frozen?_alloc_cells]; exact frozen_beyond _ _ _ (by omega)
  have k0_5 : ((w.alloc (.cells #[.int .i64 mq, .int .i64 mp, .int .i64 xq, .int .i64 xp, .bool true, .int .i64 lf, .int .i64 st, .int .i64 en] 30)).alloc (.cells #[.int .i64 0, .int .i64 0, .int .i64 0, .int .i64 0, .bool false, .int .i64 0, .int .i64 0, .int .i64 0] 30)).cell? ⟨w.heap.size, 5, none⟩ = some (.int .i64 lf) := by simp
  have f0_5 : ((w.alloc (.cells #[.int .i64 mq, .int .i64 mp, .int .i64 xq, .int .i64 xp, .bool true, .int .i64 lf, .int .i64 st, .int .i64 en] 30)).alloc (.cells #[.int .i64 0, .int .i64 0, .int .i64 0, .int .i64 0, .bool false, .int .i64 0, .int .i64 0, .int .i64 0] 30)).frozen? ⟨w.heap.size, 5, none⟩ = false := by simp only [frozen?_alloc_cells]; exact frozen_beyond _ _ _ (by omega)
  have k0_6 : ((w.alloc (.cells #[.int .i64 mq, .int .i64 mp, .int .i64 xq, .int .i64 xp, .bool true, .int .i64 lf, .int .i64 st, .int .i64 en] 30)).alloc (.cells #[.int .i64 0, .int .i64 0, .int .i64 0, .int .i64 0, .bool false, .int .i64 0, .int .i64 0, .int .i64 0] 30)).cell? ⟨w.heap.size, 6, none⟩ = some (.int .i64 st) := by simp
  have f0_6 : ((w.alloc (.cells #[.int .i64 mq, .int .i64 mp, .int .i64 xq, .int .i64 xp, .bool true, .int .i64 lf, .int .i64 st, .int .i64 en] 30)).alloc (.cells #[.int .i64 0, .int .i64 0, .int .i64 0, .int .i64 0, .bool false, .int .i64 0, .int .i64 0, .int .i64 0] 30)).frozen? ⟨w.heap.size, 6, none⟩ = false := by simp only [frozen?_alloc_cells]; exact frozen_beyond _ _ _ (by omega)
  have k0_7 : ((w.alloc (.cells #[.int .i64 mq, .int .i64 mp, .int .i64 xq, .int .i64 xp, .bool true, .int .i64 lf, .int .i64 st, .int .i64 en] 30)).alloc (.cells #[.int .i64 0, .int .i64 0, .int .i64 0, .int .i64 0, .bool false, .int .i64 0, .int .i64 0, .int .i64 0] 30)).cell? ⟨w.heap.size, 7, none⟩ = some (.int .i64 en) := by simp
  have f0_7 : ((w.alloc (.cells #[.int .i64 mq, .int .i64 mp, .int .i64 xq, .int .i64 xp, .bool true, .int .i64 lf, .int .i64 st, .int .i64 en] 30)).alloc (.cells #[.int .i64 0, .int .i64 0, .int .i64 0, .int .i64 0, .bool false, .int .i64 0, .int .i64 0, .int .i64 0] 30)).frozen? ⟨w.heap.size, 7, none⟩ = false := by simp only [frozen?_alloc_cells]; exact frozen_beyond _ _ _ (by omega)
  have k1_0 : ((w.alloc (.cells #[.int .i64 mq, .int .i64 mp, .int .i64 xq, .int .i64 xp, .bool true, .int .i64 lf, .int .i64 st, .int .i64 en] 30)).alloc (.cells #[.int .i64 0, .int .i64 0, .int .i64 0, .int .i64 0, .bool false, .int .i64 0, .int .i64 0, .int .i64 0] 30)).cell? ⟨w.heap.size + 1, 0, none⟩ = some (.int .i64 0) := by simp
  have f1_0 : ((w.alloc (.cells #[.int .i64 mq, .int .i64 mp, .int .i64 xq, .int .i64 xp, .bool true, .int .i64 lf, .int .i64 st, .int .i64 en] 30)).alloc (.cells #[.int .i64 0, .int .i64 0, .int .i64 0, .int .i64 0, .bool false, .int .i64 0, .int .i64 0, .int .i64 0] 30)).frozen? ⟨w.heap.size + 1, 0, none⟩ = false := by simp only [frozen?_alloc_cells]; exact frozen_beyond _ _ _ (by omega)
  have k1_1 : ((w.alloc (.cells #[.int .i64 mq, .int .i64 mp, .int .i64 xq, .int .i64 xp, .bool true, .int .i64 lf, .int .i64 st, .int .i64 en] 30)).alloc (.cells #[.int .i64 0, .int .i64 0, .int .i64 0, .int .i64 0, .bool false, .int .i64 0, .int .i64 0, .int .i64 0] 30)).cell? ⟨w.heap.size + 1, 1, none⟩ = some (.int .i64 0) := by simp
  have f1_1 : ((w.alloc (.cells #[.int .i64 mq, .int .i64 mp, .int .i64 xq, .int .i64 xp, .bool true, .int .i64 lf, .int .i64 st, .int .i64 en] 30)).alloc (.cells #[.int .i64 0, .int .i64 0, .int .i64 0, .int .i64 0, .bool false, .int .i64 0, .int .i64 0, .int .i64 0] 30)).frozen? ⟨w.heap.size + 1, 1, none⟩ = false := by simp only [frozen?_alloc_cells]; exact frozen_beyond _ _ _ (by omega)
  have k1_2 : ((w.alloc (.cells #[.int .i64 mq, .int .i64 mp, .int .i64 xq, .int .i64 xp, .bool true, .int .i64 lf, .int .i64 st, .int .i64 en] 30)).alloc (.cells #[.int .i64 0, .int .i64 0, .int .i64 0, .int .i64 0, .bool false, .int .i64 0, .int .i64 0, .int .i64 0] 30)).cell? ⟨w.heap.size + 1, 2, none⟩ = some (.int .i64 0) := by simp
  have f1_2 : ((w.alloc (.cells #[.int .i64 mq, .int .i64 mp, .int .i64 xq, .int .i64 xp, .bool true, .int .i64 lf, .int .i64 st, .int .i64 en] 30)).alloc (.cells #[.int .i64 0, .int .i64 0, .int .i64 0, .int .i64 0, .bool false, .int .i64 0, .int .i64 0, .int .i64 0] 30)).frozen? ⟨w.heap.size + 1, 2, none⟩ = false := by simp only [frozen?_alloc_cells]; exact frozen_beyond _ _ _ (by omega)
  have k1_3 : ((w.alloc (.cells #[.int .i64 mq, .int .i64 mp, .int .i64 xq, .int .i64 xp, .bool true, .int .i64 lf, .int .i64 st, .int .i64 en] 30)).alloc (.cells #[.int .i64 0, .int .i64 0, .int .i64 0, .int .i64 0, .bool false, .int .i64 0, .int .i64 0, .int .i64 0] 30)).cell? ⟨w.heap.size + 1, 3, none⟩ = some (.int .i64 0) := by simp
  have f1_3 : ((w.alloc (.cells #[.int .i64 mq, .int .i64 mp, .int .i64 xq, .int .i64 xp, .bool true, .int .i64 lf, .int .i64 st, .int .i64 en] 30)).alloc (.cells #[.int .i64 0, .int .i64 0, .int .i64 0, .int .i64 0, .bool false, .int .i64 0, .int .i64 0, .int .i64 0] 30)).frozen? ⟨w.heap.size + 1, 3, none⟩ = false := by simp only [frozen?_alloc_cells]; exact frozen_beyond _ _ _ (by omega)
  have k1_4 : ((w.alloc (.cells #[.int .i64 mq, .int .i64 mp, .int .i64 xq, .int .i64 xp, .bool true, .int .i64 lf, .int .i64 st, .int .i64 en] 30)).alloc (.cells #[.int .i64 0, .int .i64 0, .int .i64 0, .int .i64 0, .bool false, .int .i64 0, .int .i64 0, .int .i64 0] 30)).cell? ⟨w.heap.size + 1, 4, none⟩ = some (.bool false) := by simp
  have f1_4 : ((w.alloc (.cells #[.int .i64 mq, .int .i64 mp, .int .i64 xq, .int .i64 xp, .bool true, .int .i64 lf, .int .i64 st, .int .i64 en] 30)).alloc (.cells #[.int .i64 0, .int .i64 0, .int .i64 0, .int .i64 0, .bool false, .int .i64 0, .int .i64 0, .int .i64 0] 30)).frozen? ⟨w.heap.size + 1, 4, none⟩ = false := by simp only [frozen?_alloc_cells]; exact frozen_beyond _ _ _ (by omega)
  have k1_5 : ((w.alloc (.cells #[.int .i64 mq, .int .i64 mp, .int .i64 xq, .int .i64 xp, .bool true, .int .i64 lf, .int .i64 st, .int .i64 en] 30)).alloc (.cells #[.int .i64 0, .int .i64 0, .int .i64 0, .int .i64 0, .bool false, .int .i64 0, .int .i64 0, .int .i64 0] 30)).cell? ⟨w.heap.size + 1, 5, none⟩ = some (.int .i64 0) := by simp
  have f1_5 : ((w.alloc (.cells #[.int .i64 mq, .int .i64 mp, .int .i64 xq, .int .i64 xp, .bool true, .int .i64 lf, .int .i64 st, .int .i64 en] 30)).alloc (.cells #[.int .i64 0, .int .i64 0, .int .i64 0, .int .i64 0, .bool false, .int .i64 0, .int .i64 0, .int .i64 0] 30)).frozen? ⟨w.heap.size + 1, 5, none⟩ = false := by simp only [frozen?_alloc_cells]; exact frozen_beyond _ _ _ (by omega)
  have k1_6 : ((w.alloc (.cells #[.int .i64 mq, .int .i64 mp, .int .i64 xq, .int .i64 xp, .bool true, .int .i64 lf, .int .i64 st, .int .i64 en] 30)).alloc (.cells #[.int .i64 0, .int .i64 0, .int .i64 0, .int .i64 0, .bool false, .int .i64 0, .int .i64 0, .int .i64 0] 30)).cell? ⟨w.heap.size + 1, 6, none⟩ = some (.int .i64 0) := by simp
  have f1_6 : ((w.alloc (.cells #[.int .i64 mq, .int .i64 mp, .int .i64 xq, .int .i64 xp, .bool true, .int .i64 lf, .int .i64 st, .int .i64 en] 30)).alloc (.cells #[.int .i64 0, .int .i64 0, .int .i64 0, .int .i64 0, .bool false, .int .i64 0, .int .i64 0, .int .i64 0] 30)).frozen? ⟨w.heap.size + 1, 6, none⟩ = false := by simp only [frozen?_alloc_cells]; exact frozen_beyond _ _ _ (by omega)
  have k1_7 : ((w.alloc (.cells #[.int .i64 mq, .int .i64 mp, .int .i64 xq, .int .i64 xp, .bool true, .int .i64 lf, .int .i64 st, .int .i64 en] 30)).alloc (.cells #[.int .i64 0, .int .i64 0, .int .i64 0, .int .i64 0, .bool false, .int .i64 0, .int .i64 0, .int .i64 0] 30)).cell? ⟨w.heap.size + 1, 7, none⟩ = some (.int .i64 0) := by simp
  have f1_7 : ((w.alloc (.cells #[.int .i64 mq, .int .i64 mp, .int .i64 xq, .int .i64 xp, .bool true, .int .i64 lf, .int .i64 st, .int .i64 en] 30)).alloc (.cells #[.int .i64 0, .int .i64 0, .int .i64 0, .int .i64 0, .bool false, .int .i64 0, .int .i64 0, .int .i64 0] 30)).frozen? ⟨w.heap.size + 1, 7, none⟩ = false := by simp only [frozen?_alloc_cells]; exact frozen_beyond _ _ _ (by omega)
  have z_ : w.heap.size + 1 < ((w.alloc (.cells #[.int .i64 mq, .int .i64 mp, .int .i64 xq, .int .i64 xp, .bool true, .int .i64 lf, .int .i64 st, .int .i64 en] 30)).alloc (.cells #[.int .i64 0, .int .i64 0, .int .i64 0, .int .i64 0, .bool false, .int .i64 0, .int .i64 0, .int .i64 0] 30)).heap.size := by simp
  go_enter Tryd.func39, Tryd.ntmps39
  go_wp2_with fail
  refine (rbvalid_ok mq mp xq xp true lf st en _ h).mono ?_
  rintro e w1 ⟨rfl, hb1⟩
  replace k0_0 := keep hb1 k0_0
  replace k0_1 := keep hb1 k0_1
  replace k0_2 := keep hb1 k0_2
  replace k0_3 := keep hb1 k0_3
  replace k0_4 := keep hb1 k0_4
  replace k0_5 := keep hb1 k0_5
  replace k0_6 := keep hb1 k0_6
  replace k0_7 := keep hb1 k0_7
  replace k1_0 := keep hb1 k1_0
  replace k1_1 := keep hb1 k1_1
  replace k1_2 := keep hb1 k1_2
  replace k1_3 := keep hb1 k1_3
  replace k1_4 := keep hb1 k1_4
  replace k1_5 := keep hb1 k1_5
  replace k1_6 := keep hb1 k1_6
  replace k1_7 := keep hb1 k1_7
  replace f0_0 := keepf hb1 (by omega) f0_0
  replace f0_1 := keepf hb1 (by omega) f0_1
  replace f0_2 := keepf hb1 (by omega) f0_2
  replace f0_3 := keepf hb1 (by omega) f0_3
  replace f0_4 := keepf hb1 (by omega) f0_4
  replace f0_5 := keepf hb1 (by omega) f0_5
  replace f0_6 := keepf hb1 (by omega) f0_6
  replace f0_7 := keepf hb1 (by omega) f0_7
  replace f1_0 := keepf hb1 (by omega) f1_0
  replace f1_1 := keepf hb1 (by omega) f1_1
  replace f1_2 := keepf hb1 (by omega) f1_2
  replace f1_3 := keepf hb1 (by omega) f1_3
  replace f1_4 := keepf hb1 (by omega) f1_4
  replace f1_5 := keepf hb1 (by omega) f1_5
  replace f1_6 := keepf hb1 (by omega) f1_6
  replace f1_7 := keepf hb1 (by omega) f1_7
  replace z_ := Nat.lt_of_lt_of_le z_ hb1.size
  replace HB := below_call HB (Nat.le_refl _) hb1
  clear hb1
  clear h
  go_wp2
  refine bodyPost_ret (v := .tuple #[.agg #[.int .i64 0, .int .i64 0, .int .i64 0, .int .i64 0, .bool false, .int .i64 0, .int .i64 0, .int .i64 0], .bool true, .int .i64 0]) (by simp [results, Tryd.results39, go_sem, k1_0, k1_1, k1_2, k1_3, k1_4, k1_5, k1_6, k1_7]) rfl ⟨rfl, ?_⟩
  repeat (first | (with_reducible exact HB) | (with_reducible refine below_drewN' ?_ _) | (with_reducible refine Below.drew ?_) | (with_reducible refine Below.setCell ?_ (by simp <;> omega) _))

set_option maxHeartbeats 4000000 in
set_option maxRecDepth 100000 in
theorem rcr_same (mq mp : Int) (lf st en : Int) (w : World) (h : BV mq mp 0 0 lf st en) (ht : en ≤ 1073741824) :
    Calls Tryd.prog 39 #[bud mq mp 0 0 false lf st en, .int .i64 en] w fun e w' => e = .returned (.tuple #[.agg #[.int .i64 mq, .int .i64 mp, .int .i64 0, .int .i64 0, .bool false, .int .i64 mq, .int .i64 en, .int .i64 (en + mp)], .bool false, .int .i64 0]) ∧ Below w.heap.size w w' := by
  have ht1 : decide (1073741824 < en) = false := by simp; omega
  have hv1 := h.1.lo; have hv2 := h.1.top; have hv3 := h.1.le
  have hen : -1 < en := by have := h.2.2.2.2.2.2; have := h.2.2.2.2.1; omega
  have HB : Below w.heap.size w ((w.alloc (.cells #[.int .i64 mq, .int .i64 mp, .int .i64 0, .int .i64 0, .bool false, .int .i64 lf, .int .i64 st, .int .i64 en] 30)).alloc (.cells #[.int .i64 0, .int .i64 0, .int .i64 0, .int .i64 0, .bool false, .int .i64 0, .int .i64 0, .int .i64 0] 30)) := (((Below.refl _ w).alloc (by simp) _).alloc (by simp) _)
  have k0_0 : ((w.alloc (.cells #[.int .i64 mq, .int .i64 mp, .int .i64 0, .int .i64 0, .bool false, .int .i64 lf, .int .i64 st, .int .i64 en] 30)).alloc (.cells #[.int .i64 0, .int .i64 0, .int .i64 0, .int .i64 0, .bool false, .int .i64 0, .int .i64 0, .int .i64 0] 30)).cell? ⟨w.heap.size, 0, none⟩ = some (.int .i64 mq) := by simp
  have f0_0 : ((w.alloc (.cells #[.int .i64 mq, .int .i64 mp, .int .i64 0, .int .i64 0, .bool false, .int .i64 lf, .int .i64 st, .int .i64 en] 30)).alloc (.cells #[.int .i64 0, .int .i64 0, .int .i64 0, .int .i64 0, .bool false, .int .i64 0, .int .i64 0, .int .i64 0] 30)).frozen? ⟨w.heap.size, 0, none⟩ = false := by simp only [frozen?_alloc_cells]; exact frozen_beyond _ _ _ (by omega)
  have k0_1 : ((w.alloc (.cells #[.int .i64 mq, .int .i64 mp, .int .i64 0, .int .i64 0, .bool false, .int .i64 lf, .int .i64 st, .int .i64 en] 30)).alloc (.cells #[.int .i64 0, .int .i64 0, .int .i64 0, .int .i64 0, .bool false, .int .i64 0, .int .i64 0, .int .i64 0] 30)).cell? ⟨w.heap.size, 1, none⟩ = some (.int .i64 mp) := by simp
  have f0_1 : ((w.alloc (.cells #[.int .i64 mq, .int .i64 mp, .int .i64 0, .int .i64 0, .bool false, .int .i64 lf, .int .i64 st, .int .i64 en] 30)).alloc (.cells #[.int .i64 0, .int .i64 0, .int .i64 0, .int .i64 0, .bool false, .int .i64 0, .int .i64 0, .int .i64 0] 30)).frozen? ⟨w.heap.size, 1, none⟩ = false := by simp only [frozen?_alloc_cells]; exact frozen_beyond _ _ _ (by omega)
  have k0_2 : ((w.alloc (.cells #[.int .i64 mq, .int .i64 mp, .int .i64 0, .int .i64 0, .bool false, .int .i64 lf, .int .i64 st, .int .i64 en] 30)).alloc (.cells #[.int .i64 0, .int .i64 0, .int .i64 0, .int .i64 0, .bool false, .int .i64 0, .int .i64 0, .int .i64 0] 30)).cell? ⟨w.heap.size, 2, none⟩ = some (.int .i64 0) := by simp
  have f0_2 : ((w.alloc (.cells #[.int .i64 mq, .int .i64 mp, .int .i64 0, .int .i64 0, .bool false, .int .i64 lf, .int .i64 st, .int .i64 en] 30)).alloc (.cells #[.int .i64 0, .int .i64 0, .int .i64 0, .int .i64 0, .bool false, .int .i64 0, .int .i64 0, .int .i64 0] 30)).frozen? ⟨w.heap.size, 2, none⟩ = false := by simp only [frozen?_alloc_cells]; exact frozen_beyond _ _ _ (by omega)
  have k0_3 : ((w.alloc (.cells #[.int .i64 mq, .int .i64 mp, .int .i64 0, .int .i64 0, .bool false, .int .i64 lf, .int .i64 st, .int .i64 en] 30)).alloc (.cells #[.int .i64 0, .int .i64 0, .int .i64 0, .int .i64 0, .bool false, .int .i64 0, .int .i64 0, .int .i64 0] 30)).cell? ⟨w.heap.size, 3, none⟩ = some (.int .i64 0) := by simp
  have f0_3 : ((w.alloc (.cells #[.int .i64 mq, .int .i64 mp, .int .i64 0, .int .i64 0, .bool false, .int .i64 lf, .int .i64 st, .int .i64 en] 30)).alloc (.cells #[.int .i64 0, .int .i64 0, .int .i64 0, .int .i64 0, .bool false, .int .i64 0, .int .i64 0, .int .i64 0] 30)).frozen? ⟨w.heap.size, 3, none⟩ = false := by simp only [frozen?_alloc_cells]; exact frozen_beyond _ _ _ (by omega)
  have k0_4 : ((w.alloc (.cells #[.int .i64 mq, .int .i64 mp, .int .i64 0, .int .i64 0, .bool false, .int .i64 lf, .int .i64 st, .int .i64 en] 30)).alloc (.cells #[.int .i64 0, .int .i64 0, .int .i64 0, .int .i64 0, .bool false, .int .i64 0, .int .i64 0, .int .i64 0] 30)).cell? ⟨w.heap.size, 4, none⟩ = some (.bool false) := by simp
  have f0_4 : ((w.alloc (.cells #[.int .i64 mq, .int .i64 mp, .int .i64 0, .int .i64 0, .bool false, .int .i64 lf, .int .i64 st, .int .i64 en] 30)).alloc (.cells #[.int .i64 0, .int .i64 0, .int .i64 0, .int .i64 0, .bool false, .int .i64 0, .int .i64 0, .int .i64 0] 30)).frozen? ⟨w.heap.size, 4, none⟩ = false := by simp only [frozen?_alloc_cells]; exact frozen_beyond _ _ _ (by omega)
  have k0_5 : ((w.alloc (.cells #[.int .i64 mq, .int .i64 mp, .int .i64 0, .int .i64 0, .bool false, .int .i64 lf, .int .i64 st, .int .i64 en] 30)).alloc (.cells #[.int .i64 0, .int .i64 0, .int .i64 0, .int .i64 0, .bool false, .int .i64 0, .int .i64 0, .int .i64 0] 30)).cell? ⟨w.heap.size, 5, none⟩ = some (.int .i64 lf) := by simp
  have f0_5 : ((w.alloc (.cells #[.int .i64 mq, .int .i64 mp, .int .i64 0, .int .i64 0, .bool false, .int .i64 lf, .int .i64 st, .int .i64 en] 30)).alloc (.cells #[.int .i64 0, .int .i64 0, .int .i64 0, .int .i64 0, .bool false, .int .i64 0, .int .i64 0, .int .i64 0] 30)).frozen? ⟨w.heap.size, 5, none⟩ = false := by simp only [frozen?_alloc_cells]; exact frozen_beyond _ _ _ (by omega)
  have k0_6 : ((w.alloc (.cells #[.int .i64 mq, .int .i64 mp, .int .i64 0, .int .i64 0, .bool false, .int .i64 lf, .int .i64 st, .int .i64 en] 30)).alloc (.cells #[.int .i64 0, .int .i64 0, .int .i64 0, .int .i64 0, .bool false, .int .i64 0, .int .i64 0, .int .i64 0] 30)).cell? ⟨w.heap.size, 6, none⟩ = some (.int .i64 st) := by simp
  have f0_6 : ((w.alloc (.cells #[.int .i64 mq, .int .i64 mp, .int .i64 0, .int .i64 0, .bool false, .int .i64 lf, .int .i64 st, .int .i64 en] 30)).alloc (.cells #[.int .i64 0, .int .i64 0, .int .i64 0, .int .i64 0, .bool false, .int .i64 0, .int .i64 0, .int .i64 0] 30)).frozen? ⟨w.heap.size, 6, none⟩ = false := by simp only [frozen?_alloc_cells]; exact frozen_beyond _ _ _ (by omega)
  have k0_7 : ((w.alloc (.cells #[.int .i64 mq, .int .i64 mp, .int .i64 0, .int .i64 0, .bool false, .int .i64 lf, .int .i64 st, .int .i64 en] 30)).alloc (.cells #[.int .i64 0, .int .i64 0, .int .i64 0, .int .i64 0, .bool false, .int .i64 0, .int .i64 0, .int .i64 0] 30)).cell? ⟨w.heap.size, 7, none⟩ = some (.int .i64 en) := by simp
  have f0_7 : ((w.alloc (.cells #[.int .i64 mq, .int .i64 mp, .int .i64 0, .int .i64 0, .bool false, .int .i64 lf, .int .i64 st, .int .i64 en] 30)).alloc (.cells #[.int .i64 0, .int .i64 0, .int .i64 0, .int .i64 0, .bool false, .int .i64 0, .int .i64 0, .int .i64 0] 30)).frozen? ⟨w.heap.size, 7, none⟩ = false := by simp only [frozen?_alloc_cells]; exact frozen_beyond _ _ _ (by omega)
  have k1_0 : ((w.alloc (.cells #[.int .i64 mq, .int .i64 mp, .int .i64 0, .int .i64 0, .bool false, .int .i64 lf, .int .i64 st, .int .i64 en] 30)).alloc (.cells #[.int .i64 0, .int .i64 0, .int .i64 0, .int .i64 0, .bool false, .int .i64 0, .int .i64 0, .int .i64 0] 30)).cell? ⟨w.heap.size + 1, 0, none⟩ = some (.int .i64 0) := by simp
  have f1_0 : ((w.alloc (.cells #[.int .i64 mq, .int .i64 mp, .int .i64 0, .int .i64 0, .bool false, .int .i64 lf, .int .i64 st, .int .i64 en] 30)).alloc (.cells #[.int .i64 0, .int .i64 0, .int .i64 0, .int .i64 0, .bool false, .int .i64 0, .int .i64 0, .int .i64 0] 30)).frozen? ⟨w.heap.size + 1, 0, none⟩ = false := by simp only [frozen?_alloc_cells]; exact frozen_beyond _ _ _ (by omega)
  have k1_1 : ((w.alloc (.cells #[.int .i64 mq, .int .i64 mp, .int .i64 0, .int .i64 0, .bool false, .int .i64 lf, .int .i64 st, .int .i64 en] 30)).alloc (.cells #[.int .i64 0, .int .i64 0, .int .i64 0, .int .i64 0, .bool false, .int .i64 0, .int .i64 0, .int .i64 0] 30)).cell? ⟨w.heap.size + 1, 1, none⟩ = some (.int .i64 0) := by simp
  have f1_1 : ((w.alloc (.cells #[.int .i64 mq, .int .i64 mp, .int .i64 0, .int .i64 0, .bool false, .int .i64 lf, .int .i64 st, .int .i64 en] 30)).alloc (.cells #[.int .i64 0, .int .i64 0, .int .i64 0, .int .i64 0, .bool false, .int .i64 0, .int .i64 0, .int .i64 0] 30)).frozen? ⟨w.heap.size + 1, 1, none⟩ = false := by simp only [frozen?_alloc_cells]; exact frozen_beyond _ _ _ (by omega)
  have k1_2 : ((w.alloc (.cells #[.int .i64 mq, .int .i64 mp, .int .i64 0, .int .i64 0, .bool false, .int .i64 lf, .int .i64 st, .int .i64 en] 30)).alloc (.cells #[.int .i64 0, .int .i64 0, .int .i64 0, .int .i64 0, .bool false, .int .i64 0, .int .i64 0, .int .i64 0] 30)).cell? ⟨w.heap.size + 1, 2, none⟩ = some (.int .i64 0) := by simp
  have f1_2 : ((w.alloc (.cells #[.int .i64 mq, .int .i64 mp, .int .i64 0, .int .i64 0, .bool false, .int .i64 lf, .int .i64 st, .int .i64 en] 30)).alloc (.cells #[.int .i64 0, .int .i64 0, .int .i64 0, .int .i64 0, .bool false, .int .i64 0, .int .i64 0, .int .i64 0] 30)).frozen? ⟨w.heap.size + 1, 2, none⟩ = false := by simp only [frozen?_alloc_cells]; exact frozen_beyond _ _ _ (by omega)
  have k1_3 : ((w.alloc (.cells #[.int .i64 mq, .int .i64 mp, .int .i64 0, .int .i64 0, .bool false, .int .i64 lf, .int .i64 st, .int .i64 en] 30)).alloc (.cells #[.int .i64 0, .int .i64 0, .int .i64 0, .int .i64 0, .bool false, .int .i64 0, .int .i64 0, .int .i64 0] 30)).cell? ⟨w.heap.size + 1, 3, none⟩ = some (.int .i64 0) := by simp
  have f1_3 : ((w.alloc (.cells #[.int .i64 mq, .int .i64 mp, .int .i64 0, .int .i64 0, .bool false, .int .i64 lf, .int .i64 st, .int .i64 en] 30)).alloc (.cells #[.int .i64 0, .int .i64 0, .int .i64 0, .int .i64 0, .bool false, .int .i64 0, .int .i64 0, .int .i64 0] 30)).frozen? ⟨w.heap.size + 1, 3, none⟩ = false := by simp only [frozen?_alloc_cells]; exact frozen_beyond _ _ _ (by omega)
  have k1_4 : ((w.alloc (.cells #[.int .i64 mq, .int .i64 mp, .int .i64 0, .int .i64 0, .bool false, .int .i64 lf, .int .i64 st, .int .i64 en] 30)).alloc (.cells #[.int .i64 0, .int .i64 0, .int .i64 0, .int .i64 0, .bool false, .int .i64 0, .int .i64 0, .int .i64 0] 30)).cell? ⟨w.heap.size + 1, 4, none⟩ = some (.bool false) := by simp
  have f1_4 : ((w.alloc (.cells #[.int .i64 mq, .int .i64 mp, .int .i64 0, .int .i64 0, .bool false, .int .i64 lf, .int .i64 st, .int .i64 en] 30)).alloc (.cells #[.int .i64 0, .int .i64 0, .int .i64 0, .int .i64 0, .bool false, .int .i64 0, .int .i64 0, .int .i64 0] 30)).frozen? ⟨w.heap.size + 1, 4, none⟩ = false := by simp only [frozen?_alloc_cells]; exact frozen_beyond _ _ _ (by omega)
  have k1_5 : ((w.alloc (.cells #[.int .i64 mq, .int .i64 mp, .int .i64 0, .int .i64 0, .bool false, .int .i64 lf, .int .i64 st, .int .i64 en] 30)).alloc (.cells #[.int .i64 0, .int .i64 0, .int .i64 0, .int .i64 0, .bool false, .int .i64 0, .int .i64 0, .int .i64 0] 30)).cell? ⟨w.heap.size + 1, 5, none⟩ = some (.int .i64 0) := by simp
  have f1_5 : ((w.alloc (.cells #[.int .i64 mq, .int .i64 mp, .int .i64 0, .int .i64 0, .bool false, .int .i64 lf, .int .i64 st, .int .i64 en] 30)).alloc (.cells #[.int .i64 0, .int .i64 0, .int .i64 0, .int .i64 0, .bool false, .int .i64 0, .int .i64 0, .int .i64 0] 30)).frozen? ⟨w.heap.size + 1, 5, none⟩ = false := by simp only [frozen?_alloc_cells]; exact frozen_beyond _ _ _ (by omega)
  have k1_6 : ((w.alloc (.cells #[.int .i64 mq, .int .i64 mp, .int .i64 0, .int .i64 0, .bool false, .int .i64 lf, .int .i64 st, .int .i64 en] 30)).alloc (.cells #[.int .i64 0, .int .i64 0, .int .i64 0, .int .i64 0, .bool false, .int .i64 0, .int .i64 0, .int .i64 0] 30)).cell? ⟨w.heap.size + 1, 6, none⟩ = some (.int .i64 0) := by simp
  have f1_6 : ((w.alloc (.cells #[.int .i64 mq, .int .i64 mp, .int .i64 0, .int .i64 0, .bool false, .int .i64 lf, .int .i64 st, .int .i64 en] 30)).alloc (.cells #[.int .i64 0, .int .i64 0, .int .i64 0, .int .i64 0, .bool false, .int .i64 0, .int .i64 0, .int .i64 0] 30)).frozen? ⟨w.heap.size + 1, 6, none⟩ = false := by simp only [frozen?_alloc_cells]; exact frozen_beyond _ _ _ (by omega)
  have k1_7 : ((w.alloc (.cells #[.int .i64 mq, .int .i64 mp, .int .i64 0, .int .i64 0, .bool false, .int .i64 lf, .int .i64 st, .int .i64 en] 30)).alloc (.cells #[.int .i64 0, .int .i64 0, .int .i64 0, .int .i64 0, .bool false, .int .i64 0, .int .i64 0, .int .i64 0] 30)).cell? ⟨w.heap.size + 1, 7, none⟩ = some (.int .i64 0) := by simp
  have f1_7 : ((w.alloc (.cells #[.int .i64 mq, .int .i64 mp, .int .i64 0, .int .i64 0, .bool false, .int .i64 lf, .int .i64 st, .int .i64 en] 30)).alloc (.cells #[.int .i64 0, .int .i64 0, .int .i64 0, .int .i64 0, .bool false, .int .i64 0, .int .i64 0, .int .i64 0] 30)).frozen? ⟨w.heap.size + 1, 7, none⟩ = false := by simp only [frozen?_alloc_cells]; exact frozen_beyond _ _ _ (by omega)
  have z_ : w.heap.size + 1 < ((w.alloc (.cells #[.int .i64 mq, .int .i64 mp, .int .i64 0, .int .i64 0, .bool false, .int .i64 lf, .int .i64 st, .int .i64 en] 30)).alloc (.cells #[.int .i64 0, .int .i64 0, .int .i64 0, .int .i64 0, .bool false, .int .i64 0, .int .i64 0, .int .i64 0] 30)).heap.size := by simp
  go_enter Tryd.func39, Tryd.ntmps39
  go_wp2_with fail
  refine (rbvalid_ok mq mp 0 0 false lf st en _ h).mono ?_
  rintro e w1 ⟨rfl, hb1⟩
  replace k0_0 := keep hb1 k0_0
  replace k0_1 := keep hb1 k0_1
  replace k0_2 := keep hb1 k0_2
  replace k0_3 := keep hb1 k0_3
  replace k0_4 := keep hb1 k0_4
  replace k0_5 := keep hb1 k0_5
  replace k0_6 := keep hb1 k0_6
  replace k0_7 := keep hb1 k0_7
  replace k1_0 := keep hb1 k1_0
  replace k1_1 := keep hb1 k1_1
  replace k1_2 := keep hb1 k1_2
  replace k1_3 := keep hb1 k1_3
  replace k1_4 := keep hb1 k1_4
  replace k1_5 := keep hb1 k1_5
  replace k1_6 := keep hb1 k1_6
  replace k1_7 := keep hb1 k1_7
  replace f0_0 := keepf hb1 (by omega) f0_0
  replace f0_1 := keepf hb1 (by omega) f0_1
  replace f0_2 := keepf hb1 (by omega) f0_2
  replace f0_3 := keepf hb1 (by omega) f0_3
  replace f0_4 := keepf hb1 (by omega) f0_4
  replace f0_5 := keepf hb1 (by omega) f0_5
  replace f0_6 := keepf hb1 (by omega) f0_6
  replace f0_7 := keepf hb1 (by omega) f0_7
  replace f1_0 := keepf hb1 (by omega) f1_0
  replace f1_1 := keepf hb1 (by omega) f1_1
  replace f1_2 := keepf hb1 (by omega) f1_2
  replace f1_3 := keepf hb1 (by omega) f1_3
  replace f1_4 := keepf hb1 (by omega) f1_4
  replace f1_5 := keepf hb1 (by omega) f1_5
  replace f1_6 := keepf hb1 (by omega) f1_6
  replace f1_7 := keepf hb1 (by omega) f1_7
  replace z_ := Nat.lt_of_lt_of_le z_ hb1.size
  replace HB := below_call HB (Nat.le_refl _) hb1
  clear hb1
  clear h
  go_wp2
  refine bodyPost_ret (v := .tuple #[.agg #[.int .i64 mq, .int .i64 mp, .int .i64 0, .int .i64 0, .bool false, .int .i64 mq, .int .i64 en, .int .i64 (en + mp)], .bool false, .int .i64 0]) (by simp [results, Tryd.results39, go_sem, k1_0, k1_1, k1_2, k1_3, k1_4, k1_5, k1_6, k1_7]) rfl ⟨rfl, ?_⟩
  repeat (first | (with_reducible exact HB) | (with_reducible refine below_drewN' ?_ _) | (with_reducible refine Below.drew ?_) | (with_reducible refine Below.setCell ?_ (by simp <;> omega) _))

set_option maxHeartbeats 4000000 in
set_option maxRecDepth 100000 in
theorem rcr_switch (mq mp xq xp : Int) (lf st en : Int) (w : World) (h : BV mq mp xq xp lf st en) (hx : Vld xq xp) (ht : en ≤ 1073741824) :
    Calls Tryd.prog 39 #[bud mq mp xq xp false lf st en, .int .i64 en] w fun e w' => e = .returned (.tuple #[.agg #[.int .i64 xq, .int .i64 xp, .int .i64 0, .int .i64 0, .bool false, .int .i64 xq, .int .i64 en, .int .i64 (en + xp)], .bool false, .int .i64 0]) ∧ Below w.heap.size w w' := by
  have ht1 : decide (1073741824 < en) = false := by simp; omega
  have hv1 := hx.lo; have hv2 := hx.top; have hv3 := hx.le
  have hen : -1 < en := by have := h.2.2.2.2.2.2; have := h.2.2.2.2.1; have := h.1.lo; have := h.1.le; omega
  have hz : (xq == 0) = false := by simp; omega
  have HB : Below w.heap.size w ((w.alloc (.cells #[.int .i64 mq, .int .i64 mp, .int .i64 xq, .int .i64 xp, .bool false, .int .i64 lf, .int .i64 st, .int .i64 en] 30)).alloc (.cells #[.int .i64 0, .int .i64 0, .int .i64 0, .int .i64 0, .bool false, .int .i64 0, .int .i64 0, .int .i64 0] 30)) := (((Below.refl _ w).alloc (by simp) _).alloc (by simp) _)
  have k0_0 : ((w.alloc (.cells #[.int .i64 mq, .int .i64 mp, .int .i64 xq, .int .i64 xp, .bool false, .int .i64 lf, .int .i64 st, .int .i64 en] 30)).alloc (.cells #[.int .i64 0, .int .i64 0, .int .i64 0, .int .i64 0, .bool false, .int .i64 0, .int .i64 0, .int .i64 0] 30)).cell? ⟨w.heap.size, 0, none⟩ = some (.int .i64 mq) := by simp
  have f0_0 : ((w.alloc (.cells #[.int .i64 mq, .int .i64 mp, .int .i64 xq, .int .i64 xp, .bool false, .int .i64 lf, .int .i64 st, .int .i64 en] 30)).alloc (.cells #[.int .i64 0, .int .i64 0, .int .i64 0, .int .i64 0, .bool false, .int .i64 0, .int .i64 0, .int .i64 0] 30)).frozen? ⟨w.heap.size, 0, none⟩ = false := by simp only [frozen?_alloc_cells]; exact frozen_beyond _ _ _ (by omega)
  have k0_1 : ((w.alloc (.cells #[.int .i64 mq, .int .i64 mp, .int .i64 xq, .int .i64 xp, .bool false, .int .i64 lf, .int .i64 st, .int .i64 en] 30)).alloc (.cells #[.int .i64 0, .int .i64 0, .int .i64 0, .int .i64 0, .bool false, .int .i64 0, .int .i64 0, .int .i64 0] 30)).cell? ⟨w.heap.size, 1, none⟩ = some (.int .i64 mp) := by simp
  have f0_1 : ((w.alloc (.cells #[.int .i64 mq, .int .i64 mp, .int .i64 xq, .int .i64 xp, .bool false, .int .i64 lf, .int .i64 st, .int .i64 en] 30)).alloc (.cells #[.int .i64 0, .int .i64 0, .int .i64 0, .int .i64 0, .bool false, .int .i64 0, .int .i64 0, .int .i64 0] 30)).frozen? ⟨w.heap.size, 1, none⟩ = false := by simp only [frozen?_alloc_cells]; exact frozen_beyond _ _ _ (by omega)
  have k0_2 : ((w.alloc (.cells #[.int .i64 mq, .int .i64 mp, .int .i64 xq, .int .i64 xp, .bool false, .int .i64 lf, .int .i64 st, .int .i64 en] 30)).alloc (.cells #[.int .i64 0, .int .i64 0, .int .i64 0, .int .i64 0, .bool false, .int .i64 0, .int .i64 0, .int .i64 0] 30)).cell? ⟨w.heap.size, 2, none⟩ = some (.int .i64 xq) := by simp
  have f0_2 : ((w.alloc (.cells #[.int .i64 mq, .int .i64 mp, .int .i64 xq, .int .i64 xp, .bool false, .int .i64 lf, .int .i64 st, .int .i64 en] 30)).alloc (.cells #[.int .i64 0, .int .i64 0, .int .i64 0, .int .i64 0, .bool false, .int .i64 0, .int .i64 0, .int .i64 0] 30)).frozen? ⟨w.heap.size, 2, none⟩ = false := by simp only [frozen?_alloc_cells]; exact frozen_beyond _ _ _ (by omega)
  have k0_3 : ((w.alloc (.cells #[.int .i64 mq, .int .i64 mp, .int .i64 xq, .int .i64 xp, .bool false, .int .i64 lf, .int .i64 st, .int .i64 en] 30)).alloc (.cells #[.int .i64 0, .int .i64 0, .int .i64 0, .int .i64 0, .bool false, .int .i64 0, .int .i64 0, .int .i64 0] 30)).cell? ⟨w.heap.size, 3, none⟩ = some (.int .i64 xp) := by simp
  have f0_3 : ((w.alloc (.cells #[.int .i64 mq, .int .i64 mp, .int .i64 xq, .int .i64 xp, .bool false, .int .i64 lf, .int .i64 st, .int .i64 en] 30)).alloc (.cells #[.int .i64 0, .int .i64 0, .int .i64 0, .int .i64 0, .bool false, .int .i64 0, .int .i64 0, .int .i64 0] 30)).frozen? ⟨w.heap.size, 3, none⟩ = false := by simp only [frozen?_alloc_cells]; exact frozen_beyond _ _ _ (by omega)
  have k0_4 : ((w.alloc (.cells #[.int .i64 mq, .int .i64 mp, .int .i64 xq, .int .i64 xp, .bool false, .int .i64 lf, .int .i64 st, .int .i64 en] 30)).alloc (.cells #[.int .i64 0, .int .i64 0, .int .i64 0, .int .i64 0, .bool false, .int .i64 0, .int .i64 0, .int .i64 0] 30)).cell? ⟨w.heap.size, 4, none⟩ = some (.bool false) := by simp
  have f0_4 : ((w.alloc (.cells #[.int .i64 mq, .int .i64 mp, .int .i64 xq, .int .i64 xp, .bool false, .int .i64 lf, .int .i64 st, .int .i64 en] 30)).alloc (.cells #[.int .i64 0, .int .i64 0, .int .i64 0, .int .i64 0, .bool false, .int .i64 0, .int .i64 0, .int .i64 0] 30)).frozen? ⟨w.heap.size, 4, none⟩ = false := by simp only [frozen?_alloc_cells]; exact frozen_beyond _ _ _ (by omega)
  have k0_5 : ((w.alloc (.cells #[.int .i64 mq, .int .i64 mp, .int .i64 xq, .int .i64 xp, .bool false, .int .i64 lf, .int .i64 st, .int .i64 en] 30)).alloc (.cells #[.int .i64 0, .int .i64 0, .int .i64 0, .int .i64 0, .bool false, .int .i64 0, .int .i64 0, .int .i64 0] 30)).cell? ⟨w.heap.size, 5, none⟩ = some (.int .i64 lf) := by simp
  have f0_5 : ((w.alloc (.cells #[.int .i64 mq, .int .i64 mp, .int .i64 xq, .int .i64 xp, .bool false, .int .i64 lf, .int .i64 st, .int .i64 en] 30)).alloc (.cells #[.int .i64 0, .int .i64 0, .int .i64 0, .int .i64 0, .bool false, .int .i64 0, .int .i64 0, .int .i64 0] 30)).frozen? ⟨w.heap.size, 5, none⟩ = false := by simp only [frozen?_alloc_cells]; exact frozen_beyond _ _ _ (by omega)
  have k0_6 : ((w.alloc (.cells #[.int .i64 mq, .int .i64 mp, .int .i64 xq, .int .i64 xp, .bool false, .int .i64 lf, .int .i64 st, .int .i64 en] 30)).alloc (.cells #[.int .i64 0, .int .i64 0, .int .i64 0, .int .i64 0, .bool false, .int .i64 0, .int .i64 0, .int .i64 0] 30)).cell? ⟨w.heap.size, 6, none⟩ = some (.int .i64 st) := by simp
  have f0_6 : ((w.alloc (.cells #[.int .i64 mq, .int .i64 mp, .int .i64 xq, .int .i64 xp, .bool false, .int .i64 lf, .int .i64 st, .int .i64 en] 30)).alloc (.cells #[.int .i64 0, .int .i64 0, .int .i64 0, .int .i64 0, .bool false, .int .i64 0, .int .i64 0, .int .i64 0] 30)).frozen? ⟨w.heap.size, 6, none⟩ = false := by simp only [frozen?_alloc_cells]; exact frozen_beyond _ _ _ (by omega)
  have k0_7 : ((w.alloc (.cells #[.int .i64 mq, .int .i64 mp, .int .i64 xq, .int .i64 xp, .bool false, .int .i64 lf, .int .i64 st, .int .i64 en] 30)).alloc (.cells #[.int .i64 0, .int .i64 0, .int .i64 0, .int .i64 0, .bool false, .int .i64 0, .int .i64 0, .int .i64 0] 30)).cell? ⟨w.heap.size, 7, none⟩ = some (.int .i64 en) := by simp
  have f0_7 : ((w.alloc (.cells #[.int .i64 mq, .int .i64 mp, .int .i64 xq, .int .i64 xp, .bool false, .int .i64 lf, .int .i64 st, .int .i64 en] 30)).alloc (.cells #[.int .i64 0, .int .i64 0, .int .i64 0, .int .i64 0, .bool false, .int .i64 0, .int .i64 0, .int .i64 0] 30)).frozen? ⟨w.heap.size, 7, none⟩ = false := by simp only [frozen?_alloc_cells]; exact frozen_beyond _ _ _ (by omega)
  have k1_0 : ((w.alloc (.cells #[.int .i64 mq, .int .i64 mp, .int .i64 xq, .int .i64 xp, .bool false, .int .i64 lf, .int .i64 st, .int .i64 en] 30)).alloc (.cells #[.int .i64 0, .int .i64 0, .int .i64 0, .int .i64 0, .bool false, .int .i64 0, .int .i64 0, .int .i64 0] 30)).cell? ⟨w.heap.size + 1, 0, none⟩ = some (.int .i64 0) := by simp
  have f1_0 : ((w.alloc (.cells #[.int .i64 mq, .int .i64 mp, .int .i64 xq, .int .i64 xp, .bool false, .int .i64 lf, .int .i64 st, .int .i64 en] 30)).alloc (.cells #[.int .i64 0, .int .i64 0, .int .i64 0, .int .i64 0, .bool false, .int .i64 0, .int .i64 0, .int .i64 0] 30)).frozen? ⟨w.heap.size + 1, 0, none⟩ = false := by simp only [frozen?_alloc_cells]; exact frozen_beyond _ _ _ (by omega)
  have k1_1 : ((w.alloc (.cells #[.int .i64 mq, .int .i64 mp, .int .i64 xq, .int .i64 xp, .bool false, .int .i64 lf, .int .i64 st, .int .i64 en] 30)).alloc (.cells #[.int .i64 0, .int .i64 0, .int .i64 0, .int .i64 0, .bool false, .int .i64 0, .int .i64 0, .int .i64 0] 30)).cell? ⟨w.heap.size + 1, 1, none⟩ = some (.int .i64 0) := by simp
  have f1_1 : ((w.alloc (.cells #[.int .i64 mq, .int .i64 mp, .int .i64 xq, .int .i64 xp, .bool false, .int .i64 lf, .int .i64 st, .int .i64 en] 30)).alloc (.cells #[.int .i64 0, .int .i64 0, .int .i64 0, .int .i64 0, .bool false, .int .i64 0, .int .i64 0, .int .i64 0] 30)).frozen? ⟨w.heap.size + 1, 1, none⟩ = false := by simp only [frozen?_alloc_cells]; exact frozen_beyond _ _ _ (by omega)
  have k1_2 : ((w.alloc (.cells #[.int .i64 mq, .int .i64 mp, .int .i64 xq, .int .i64 xp, .bool false, .int .i64 lf, .int .i64 st, .int .i64 en] 30)).alloc (.cells #[.int .i64 0, .int .i64 0, .int .i64 0, .int .i64 0, .bool false, .int .i64 0, .int .i64 0, .int .i64 0] 30)).cell? ⟨w.heap.size + 1, 2, none⟩ = some (.int .i64 0) := by simp
  have f1_2 : ((w.alloc (.cells #[.int .i64 mq, .int .i64 mp, .int .i64 xq, .int .i64 xp, .bool false, .int .i64 lf, .int .i64 st, .int .i64 en] 30)).alloc (.cells #[.int .i64 0, .int .i64 0, .int .i64 0, .int .i64 0, .bool false, .int .i64 0, .int .i64 0, .int .i64 0] 30)).frozen? ⟨w.heap.size + 1, 2, none⟩ = false := by simp only [frozen?_alloc_cells]; exact frozen_beyond _ _ _ (by omega)
  have k1_3 : ((w.alloc (.cells #[.int .i64 mq, .int .i64 mp, .int .i64 xq, .int .i64 xp, .bool false, .int .i64 lf, .int .i64 st, .int .i64 en] 30)).alloc (.cells #[.int .i64 0, .int .i64 0, .int .i64 0, .int .i64 0, .bool false, .int .i64 0, .int .i64 0, .int .i64 0] 30)).cell? ⟨w.heap.size + 1, 3, none⟩ = some (.int .i64 0) := by simp
  have f1_3 : ((w.alloc (.cells #[.int .i64 mq, .int .i64 mp, .int .i64 xq, .int .i64 xp, .bool false, .int .i64 lf, .int .i64 st, .int .i64 en] 30)).alloc (.cells #[.int .i64 0, .int .i64 0, .int .i64 0, .int .i64 0, .bool false, .int .i64 0, .int .i64 0, .int .i64 0] 30)).frozen? ⟨w.heap.size + 1, 3, none⟩ = false := by simp only [frozen?_alloc_cells]; exact frozen_beyond _ _ _ (by omega)
  have k1_4 : ((w.alloc (.cells #[.int .i64 mq, .int .i64 mp, .int .i64 xq, .int .i64 xp, .bool false, .int .i64 lf, .int .i64 st, .int .i64 en] 30)).alloc (.cells #[.int .i64 0, .int .i64 0, .int .i64 0, .int .i64 0, .bool false, .int .i64 0, .int .i64 0, .int .i64 0] 30)).cell? ⟨w.heap.size + 1, 4, none⟩ = some (.bool false) := by simp
  have f1_4 : ((w.alloc (.cells #[.int .i64 mq, .int .i64 mp, .int .i64 xq, .int .i64 xp, .bool false, .int .i64 lf, .int .i64 st, .int .i64 en] 30)).alloc (.cells #[.int .i64 0, .int .i64 0, .int .i64 0, .int .i64 0, .bool false, .int .i64 0, .int .i64 0, .int .i64 0] 30)).frozen? ⟨w.heap.size + 1, 4, none⟩ = false := by simp only [frozen?_alloc_cells]; exact frozen_beyond _ _ _ (by omega)
  have k1_5 : ((w.alloc (.cells #[.int .i64 mq, .int .i64 mp, .int .i64 xq, .int .i64 xp, .bool false, .int .i64 lf, .int .i64 st, .int .i64 en] 30)).alloc (.cells #[.int .i64 0, .int .i64 0, .int .i64 0, .int .i64 0, .bool false, .int .i64 0, .int .i64 0, .int .i64 0] 30)).cell? ⟨w.heap.size + 1, 5, none⟩ = some (.int .i64 0) := by simp
  have f1_5 : ((w.alloc (.cells #[.int .i64 mq, .int .i64 mp, .int .i64 xq, .int .i64 xp, .bool false, .int .i64 lf, .int .i64 st, .int .i64 en] 30)).alloc (.cells #[.int .i64 0, .int .i64 0, .int .i64 0, .int .i64 0, .bool false, .int .i64 0, .int .i64 0, .int .i64 0] 30)).frozen? ⟨w.heap.size + 1, 5, none⟩ = false := by simp only [frozen?_alloc_cells]; exact frozen_beyond _ _ _ (by omega)
  have k1_6 : ((w.alloc (.cells #[.int .i64 mq, .int .i64 mp, .int .i64 xq, .int .i64 xp, .bool false, .int .i64 lf, .int .i64 st, .int .i64 en] 30)).alloc (.cells #[.int .i64 0, .int .i64 0, .int .i64 0, .int .i64 0, .bool false, .int .i64 0, .int .i64 0, .int .i64 0] 30)).cell? ⟨w.heap.size + 1, 6, none⟩ = some (.int .i64 0) := by simp
  have f1_6 : ((w.alloc (.cells #[.int .i64 mq, .int .i64 mp, .int .i64 xq, .int .i64 xp, .bool false, .int .i64 lf, .int .i64 st, .int .i64 en] 30)).alloc (.cells #[.int .i64 0, .int .i64 0, .int .i64 0, .int .i64 0, .bool false, .int .i64 0, .int .i64 0, .int .i64 0] 30)).frozen? ⟨w.heap.size + 1, 6, none⟩ = false := by simp only [frozen?_alloc_cells]; exact frozen_beyond _ _ _ (by omega)
  have k1_7 : ((w.alloc (.cells #[.int .i64 mq, .int .i64 mp, .int .i64 xq, .int .i64 xp, .bool false, .int .i64 lf, .int .i64 st, .int .i64 en] 30)).alloc (.cells #[.int .i64 0, .int .i64 0, .int .i64 0, .int .i64 0, .bool false, .int .i64 0, .int .i64 0, .int .i64 0] 30)).cell? ⟨w.heap.size + 1, 7, none⟩ = some (.int .i64 0) := by simp
  have f1_7 : ((w.alloc (.cells #[.int .i64 mq, .int .i64 mp, .int .i64 xq, .int .i64 xp, .bool false, .int .i64 lf, .int .i64 st, .int .i64 en] 30)).alloc (.cells #[.int .i64 0, .int .i64 0, .int .i64 0, .int .i64 0, .bool false, .int .i64 0, .int .i64 0, .int .i64 0] 30)).frozen? ⟨w.heap.size + 1, 7, none⟩ = false := by simp only [frozen?_alloc_cells]; exact frozen_beyond _ _ _ (by omega)
  have z_ : w.heap.size + 1 < ((w.alloc (.cells #[.int .i64 mq, .int .i64 mp, .int .i64 xq, .int .i64 xp, .bool false, .int .i64 lf, .int .i64 st, .int .i64 en] 30)).alloc (.cells #[.int .i64 0, .int .i64 0, .int .i64 0, .int .i64 0, .bool false, .int .i64 0, .int .i64 0, .int .i64 0] 30)).heap.size := by simp
  go_enter Tryd.func39, Tryd.ntmps39
  go_wp2_with fail
  refine (rbvalid_ok mq mp xq xp false lf st en _ h).mono ?_
  rintro e w1 ⟨rfl, hb1⟩
  replace k0_0 := keep hb1 k0_0
  replace k0_1 := keep hb1 k0_1
  replace k0_2 := keep hb1 k0_2
  replace k0_3 := keep hb1 k0_3
  replace k0_4 := keep hb1 k0_4
  replace k0_5 := keep hb1 k0_5
  replace k0_6 := keep hb1 k0_6
  replace k0_7 := keep hb1 k0_7
  replace k1_0 := keep hb1 k1_0
  replace k1_1 := keep hb1 k1_1
  replace k1_2 := keep hb1 k1_2
  replace k1_3 := keep hb1 k1_3
  replace k1_4 := keep hb1 k1_4
  replace k1_5 := keep hb1 k1_5
  replace k1_6 := keep hb1 k1_6
  replace k1_7 := keep hb1 k1_7
  replace f0_0 := keepf hb1 (by omega) f0_0
  replace f0_1 := keepf hb1 (by omega) f0_1
  replace f0_2 := keepf hb1 (by omega) f0_2
  replace f0_3 := keepf hb1 (by omega) f0_3
  replace f0_4 := keepf hb1 (by omega) f0_4
  replace f0_5 := keepf hb1 (by omega) f0_5
  replace f0_6 := keepf hb1 (by omega) f0_6
  replace f0_7 := keepf hb1 (by omega) f0_7
  replace f1_0 := keepf hb1 (by omega) f1_0
  replace f1_1 := keepf hb1 (by omega) f1_1
  replace f1_2 := keepf hb1 (by omega) f1_2
  replace f1_3 := keepf hb1 (by omega) f1_3
  replace f1_4 := keepf hb1 (by omega) f1_4
  replace f1_5 := keepf hb1 (by omega) f1_5
  replace f1_6 := keepf hb1 (by omega) f1_6
  replace f1_7 := keepf hb1 (by omega) f1_7
  replace z_ := Nat.lt_of_lt_of_le z_ hb1.size
  replace HB := below_call HB (Nat.le_refl _) hb1
  clear hb1
  clear h
  go_wp2
  refine bodyPost_ret (v := .tuple #[.agg #[.int .i64 xq, .int .i64 xp, .int .i64 0, .int .i64 0, .bool false, .int .i64 xq, .int .i64 en, .int .i64 (en + xp)], .bool false, .int .i64 0]) (by simp [results, Tryd.results39, go_sem, k1_0, k1_1, k1_2, k1_3, k1_4, k1_5, k1_6, k1_7]) rfl ⟨rfl, ?_⟩
  repeat (first | (with_reducible exact HB) | (with_reducible refine below_drewN' ?_ _) | (with_reducible refine Below.drew ?_) | (with_reducible refine Below.setCell ?_ (by simp <;> omega) _))

theorem fair_bounds {mq mp st at_ : Int} (h : Vld mq mp) (h0 : 0 ≤ st) (h1 : st ≤ 1073741824) (h2 : st ≤ at_) (h3 : at_ ≤ st + mp) : 0 ≤ mq * (at_ - st) ∧ mq * (at_ - st) ≤ 1048576 * 1048576 := by
  have a := h.lo; have b := h.top; have c := h.le
  exact ⟨Int.mul_nonneg (by omega) (by omega), Int.mul_le_mul (by omega) (by omega) (by omega) (by omega)⟩

set_option maxHeartbeats 4000000 in
set_option maxRecDepth 100000 in
theorem fair_bad (mq mp xq xp : Int) (dy : Bool) (lf st en at_ : Int) (w : World) (h : ¬ BV mq mp xq xp lf st en) :
    Calls Tryd.prog 40 #[bud mq mp xq xp dy lf st en, .int .i64 at_] w fun e w' => e = .returned (.tuple #[.int .i64 0, .iface 83 (.int .i64 270)]) ∧ Below w.heap.size w w' := by
  have HB : Below w.heap.size w (w.alloc (.cells #[.int .i64 mq, .int .i64 mp, .int .i64 xq, .int .i64 xp, .bool dy, .int .i64 lf, .int .i64 st, .int .i64 en] 25)) := ((Below.refl _ w).alloc (by simp) _)
  have k0_0 : (w.alloc (.cells #[.int .i64 mq, .int .i64 mp, .int .i64 xq, .int .i64 xp, .bool dy, .int .i64 lf, .int .i64 st, .int .i64 en] 25)).cell? ⟨w.heap.size, 0, none⟩ = some (.int .i64 mq) := by simp
  have k0_1 : (w.alloc (.cells #[.int .i64 mq, .int .i64 mp, .int .i64 xq, .int .i64 xp, .bool dy, .int .i64 lf, .int .i64 st, .int .i64 en] 25)).cell? ⟨w.heap.size, 1, none⟩ = some (.int .i64 mp) := by simp
  have k0_2 : (w.alloc (.cells #[.int .i64 mq, .int .i64 mp, .int .i64 xq, .int .i64 xp, .bool dy, .int .i64 lf, .int .i64 st, .int .i64 en] 25)).cell? ⟨w.heap.size, 2, none⟩ = some (.int .i64 xq) := by simp
  have k0_3 : (w.alloc (.cells #[.int .i64 mq, .int .i64 mp, .int .i64 xq, .int .i64 xp, .bool dy, .int .i64 lf, .int .i64 st, .int .i64 en] 25)).cell? ⟨w.heap.size, 3, none⟩ = some (.int .i64 xp) := by simp
  have k0_4 : (w.alloc (.cells #[.int .i64 mq, .int .i64 mp, .int .i64 xq, .int .i64 xp, .bool dy, .int .i64 lf, .int .i64 st, .int .i64 en] 25)).cell? ⟨w.heap.size, 4, none⟩ = some (.bool dy) := by simp
  have k0_5 : (w.alloc (.cells #[.int .i64 mq, .int .i64 mp, .int .i64 xq, .int .i64 xp, .bool dy, .int .i64 lf, .int .i64 st, .int .i64 en] 25)).cell? ⟨w.heap.size, 5, none⟩ = some (.int .i64 lf) := by simp
  have k0_6 : (w.alloc (.cells #[.int .i64 mq, .int .i64 mp, .int .i64 xq, .int .i64 xp, .bool dy, .int .i64 lf, .int .i64 st, .int .i64 en] 25)).cell? ⟨w.heap.size, 6, none⟩ = some (.int .i64 st) := by simp
  have k0_7 : (w.alloc (.cells #[.int .i64 mq, .int .i64 mp, .int .i64 xq, .int .i64 xp, .bool dy, .int .i64 lf, .int .i64 st, .int .i64 en] 25)).cell? ⟨w.heap.size, 7, none⟩ = some (.int .i64 en) := by simp
  go_enter Tryd.func40, Tryd.ntmps40
  go_wp2_with fail
  refine (bvalid_bad mq mp xq xp dy lf st en _ h).mono ?_
  rintro e w1 ⟨rfl, hb1⟩
  replace k0_0 := keep hb1 k0_0
  replace k0_1 := keep hb1 k0_1
  replace k0_2 := keep hb1 k0_2
  replace k0_3 := keep hb1 k0_3
  replace k0_4 := keep hb1 k0_4
  replace k0_5 := keep hb1 k0_5
  replace k0_6 := keep hb1 k0_6
  replace k0_7 := keep hb1 k0_7
  replace HB := below_call HB (Nat.le_refl _) hb1
  clear hb1
  go_wp2
  go_ret2
  exact ⟨rfl, HB⟩

set_option maxHeartbeats 4000000 in
set_option maxRecDepth 100000 in
theorem fair_lo (mq mp xq xp : Int) (dy : Bool) (lf st en at_ : Int) (w : World) (h : BV mq mp xq xp lf st en) (h1 : at_ < st) :
    Calls Tryd.prog 40 #[bud mq mp xq xp dy lf st en, .int .i64 at_] w fun e w' => e = .returned (.tuple #[.int .i64 0, .iface 83 (.int .i64 1)]) ∧ Below w.heap.size w w' := by
  have c1 : decide (at_ < st) = true := by simp; omega
  have HB : Below w.heap.size w (w.alloc (.cells #[.int .i64 mq, .int .i64 mp, .int .i64 xq, .int .i64 xp, .bool dy, .int .i64 lf, .int .i64 st, .int .i64 en] 25)) := ((Below.refl _ w).alloc (by simp) _)
  have k0_0 : (w.alloc (.cells #[.int .i64 mq, .int .i64 mp, .int .i64 xq, .int .i64 xp, .bool dy, .int .i64 lf, .int .i64 st, .int .i64 en] 25)).cell? ⟨w.heap.size, 0, none⟩ = some (.int .i64 mq) := by simp
  have k0_1 : (w.alloc (.cells #[.int .i64 mq, .int .i64 mp, .int .i64 xq, .int .i64 xp, .bool dy, .int .i64 lf, .int .i64 st, .int .i64 en] 25)).cell? ⟨w.heap.size, 1, none⟩ = some (.int .i64 mp) := by simp
  have k0_2 : (w.alloc (.cells #[.int .i64 mq, .int .i64 mp, .int .i64 xq, .int .i64 xp, .bool dy, .int .i64 lf, .int .i64 st, .int .i64 en] 25)).cell? ⟨w.heap.size, 2, none⟩ = some (.int .i64 xq) := by simp
  have k0_3 : (w.alloc (.cells #[.int .i64 mq, .int .i64 mp, .int .i64 xq, .int .i64 xp, .bool dy, .int .i64 lf, .int .i64 st, .int .i64 en] 25)).cell? ⟨w.heap.size, 3, none⟩ = some (.int .i64 xp) := by simp
  have k0_4 : (w.alloc (.cells #[.int .i64 mq, .int .i64 mp, .int .i64 xq, .int .i64 xp, .bool dy, .int .i64 lf, .int .i64 st, .int .i64 en] 25)).cell? ⟨w.heap.size, 4, none⟩ = some (.bool dy) := by simp
  have k0_5 : (w.alloc (.cells #[.int .i64 mq, .int .i64 mp, .int .i64 xq, .int .i64 xp, .bool dy, .int .i64 lf, .int .i64 st, .int .i64 en] 25)).cell? ⟨w.heap.size, 5, none⟩ = some (.int .i64 lf) := by simp
  have k0_6 : (w.alloc (.cells #[.int .i64 mq, .int .i64 mp, .int .i64 xq, .int .i64 xp, .bool dy, .int .i64 lf, .int .i64 st, .int .i64 en] 25)).cell? ⟨w.heap.size, 6, none⟩ = some (.int .i64 st) := by simp
  have k0_7 : (w.alloc (.cells #[.int .i64 mq, .int .i64 mp, .int .i64 xq, .int .i64 xp, .bool dy, .int .i64 lf, .int .i64 st, .int .i64 en] 25)).cell? ⟨w.heap.size, 7, none⟩ = some (.int .i64 en) := by simp
  go_enter Tryd.func40, Tryd.ntmps40
  go_wp2_with fail
  refine (bvalid_ok mq mp xq xp dy lf st en _ h).mono ?_
  rintro e w1 ⟨rfl, hb1⟩
  replace k0_0 := keep hb1 k0_0
  replace k0_1 := keep hb1 k0_1
  replace k0_2 := keep hb1 k0_2
  replace k0_3 := keep hb1 k0_3
  replace k0_4 := keep hb1 k0_4
  replace k0_5 := keep hb1 k0_5
  replace k0_6 := keep hb1 k0_6
  replace k0_7 := keep hb1 k0_7
  replace HB := below_call HB (Nat.le_refl _) hb1
  clear hb1
  clear h
  go_wp2
  go_ret2
  exact ⟨rfl, HB⟩

set_option maxHeartbeats 4000000 in
set_option maxRecDepth 100000 in
theorem fair_hi (mq mp xq xp : Int) (dy : Bool) (lf st en at_ : Int) (w : World) (h : BV mq mp xq xp lf st en) (h1 : ¬ at_ < st) (h2 : en < at_) :
    Calls Tryd.prog 40 #[bud mq mp xq xp dy lf st en, .int .i64 at_] w fun e w' => e = .returned (.tuple #[.int .i64 0, .iface 83 (.int .i64 1)]) ∧ Below w.heap.size w w' := by
  have c1 : decide (at_ < st) = false := by simp; omega
  have c2 : decide (en < at_) = true := by simp; omega
  have HB : Below w.heap.size w (w.alloc (.cells #[.int .i64 mq, .int .i64 mp, .int .i64 xq, .int .i64 xp, .bool dy, .int .i64 lf, .int .i64 st, .int .i64 en] 25)) := ((Below.refl _ w).alloc (by simp) _)
  have k0_0 : (w.alloc (.cells #[.int .i64 mq, .int .i64 mp, .int .i64 xq, .int .i64 xp, .bool dy, .int .i64 lf, .int .i64 st, .int .i64 en] 25)).cell? ⟨w.heap.size, 0, none⟩ = some (.int .i64 mq) := by simp
  have k0_1 : (w.alloc (.cells #[.int .i64 mq, .int .i64 mp, .int .i64 xq, .int .i64 xp, .bool dy, .int .i64 lf, .int .i64 st, .int .i64 en] 25)).cell? ⟨w.heap.size, 1, none⟩ = some (.int .i64 mp) := by simp
  have k0_2 : (w.alloc (.cells #[.int .i64 mq, .int .i64 mp, .int .i64 xq, .int .i64 xp, .bool dy, .int .i64 lf, .int .i64 st, .int .i64 en] 25)).cell? ⟨w.heap.size, 2, none⟩ = some (.int .i64 xq) := by simp
  have k0_3 : (w.alloc (.cells #[.int .i64 mq, .int .i64 mp, .int .i64 xq, .int .i64 xp, .bool dy, .int .i64 lf, .int .i64 st, .int .i64 en] 25)).cell? ⟨w.heap.size, 3, none⟩ = some (.int .i64 xp) := by simp
  have k0_4 : (w.alloc (.cells #[.int .i64 mq, .int .i64 mp, .int .i64 xq, .int .i64 xp, .bool dy, .int .i64 lf, .int .i64 st, .int .i64 en] 25)).cell? ⟨w.heap.size, 4, none⟩ = some (.bool dy) := by simp
  have k0_5 : (w.alloc (.cells #[.int .i64 mq, .int .i64 mp, .int .i64 xq, .int .i64 xp, .bool dy, .int .i64 lf, .int .i64 st, .int .i64 en] 25)).cell? ⟨w.heap.size, 5, none⟩ = some (.int .i64 lf) := by simp
  have k0_6 : (w.alloc (.cells #[.int .i64 mq, .int .i64 mp, .int .i64 xq, .int .i64 xp, .bool dy, .int .i64 lf, .int .i64 st, .int .i64 en] 25)).cell? ⟨w.heap.size, 6, none⟩ = some (.int .i64 st) := by simp
  have k0_7 : (w.alloc (.cells #[.int .i64 mq, .int .i64 mp, .int .i64 xq, .int .i64 xp, .bool dy, .int .i64 lf, .int .i64 st, .int .i64 en] 25)).cell? ⟨w.heap.size, 7, none⟩ = some (.int .i64 en) := by simp
  go_enter Tryd.func40, Tryd.ntmps40
  go_wp2_with fail
  refine (bvalid_ok mq mp xq xp dy lf st en _ h).mono ?_
  rintro e w1 ⟨rfl, hb1⟩
  replace k0_0 := keep hb1 k0_0
  replace k0_1 := keep hb1 k0_1
  replace k0_2 := keep hb1 k0_2
  replace k0_3 := keep hb1 k0_3
  replace k0_4 := keep hb1 k0_4
  replace k0_5 := keep hb1 k0_5
  replace k0_6 := keep hb1 k0_6
  replace k0_7 := keep hb1 k0_7
  replace HB := below_call HB (Nat.le_refl _) hb1
  clear hb1
  clear h
  go_wp2
  go_ret2
  exact ⟨rfl, HB⟩

set_option maxHeartbeats 4000000 in
set_option maxRecDepth 100000 in
theorem fair_ok (mq mp xq xp : Int) (dy : Bool) (lf st en at_ : Int) (w : World) (h : BV mq mp xq xp lf st en) (h1 : ¬ at_ < st) (h2 : ¬ en < at_) :
    Calls Tryd.prog 40 #[bud mq mp xq xp dy lf st en, .int .i64 at_] w fun e w' => e = .returned (.tuple #[.int .i64 (mq * (at_ - st) / mp), .nilIface]) ∧ Below w.heap.size w w' := by
  have c1 : decide (at_ < st) = false := by simp; omega
  have c2 : decide (en < at_) = false := by simp; omega
  have v1 := h.1.lo; have v2 := h.1.top; have v3 := h.1.le
  have s0 : 0 ≤ st := h.2.2.2.2.1
  have s1 : st ≤ 1073741824 := h.2.2.2.2.2.1
  have s2 : at_ ≤ st + mp := by have := h.2.2.2.2.2.2; omega
  have fb := fair_bounds h.1 s0 s1 (by omega) s2
  obtain ⟨fb1, fb2⟩ := fb
  have HB : Below w.heap.size w (w.alloc (.cells #[.int .i64 mq, .int .i64 mp, .int .i64 xq, .int .i64 xp, .bool dy, .int .i64 lf, .int .i64 st, .int .i64 en] 25)) := ((Below.refl _ w).alloc (by simp) _)
  have k0_0 : (w.alloc (.cells #[.int .i64 mq, .int .i64 mp, .int .i64 xq, .int .i64 xp, .bool dy, .int .i64 lf, .int .i64 st, .int .i64 en] 25)).cell? ⟨w.heap.size, 0, none⟩ = some (.int .i64 mq) := by simp
  have k0_1 : (w.alloc (.cells #[.int .i64 mq, .int .i64 mp, .int .i64 xq, .int .i64 xp, .bool dy, .int .i64 lf, .int .i64 st, .int .i64 en] 25)).cell? ⟨w.heap.size, 1, none⟩ = some (.int .i64 mp) := by simp
  have k0_2 : (w.alloc (.cells #[.int .i64 mq, .int .i64 mp, .int .i64 xq, .int .i64 xp, .bool dy, .int .i64 lf, .int .i64 st, .int .i64 en] 25)).cell? ⟨w.heap.size, 2, none⟩ = some (.int .i64 xq) := by simp
  have k0_3 : (w.alloc (.cells #[.int .i64 mq, .int .i64 mp, .int .i64 xq, .int .i64 xp, .bool dy, .int .i64 lf, .int .i64 st, .int .i64 en] 25)).cell? ⟨w.heap.size, 3, none⟩ = some (.int .i64 xp) := by simp
  have k0_4 : (w.alloc (.cells #[.int .i64 mq, .int .i64 mp, .int .i64 xq, .int .i64 xp, .bool dy, .int .i64 lf, .int .i64 st, .int .i64 en] 25)).cell? ⟨w.heap.size, 4, none⟩ = some (.bool dy) := by simp
  have k0_5 : (w.alloc (.cells #[.int .i64 mq, .int .i64 mp, .int .i64 xq, .int .i64 xp, .bool dy, .int .i64 lf, .int .i64 st, .int .i64 en] 25)).cell? ⟨w.heap.size, 5, none⟩ = some (.int .i64 lf) := by simp
  have k0_6 : (w.alloc (.cells #[.int .i64 mq, .int .i64 mp, .int .i64 xq, .int .i64 xp, .bool dy, .int .i64 lf, .int .i64 st, .int .i64 en] 25)).cell? ⟨w.heap.size, 6, none⟩ = some (.int .i64 st) := by simp
  have k0_7 : (w.alloc (.cells #[.int .i64 mq, .int .i64 mp, .int .i64 xq, .int .i64 xp, .bool dy, .int .i64 lf, .int .i64 st, .int .i64 en] 25)).cell? ⟨w.heap.size, 7, none⟩ = some (.int .i64 en) := by simp
  go_enter Tryd.func40, Tryd.ntmps40
  go_wp2_with fail
  refine (bvalid_ok mq mp xq xp dy lf st en _ h).mono ?_
  rintro e w1 ⟨rfl, hb1⟩
  replace k0_0 := keep hb1 k0_0
  replace k0_1 := keep hb1 k0_1
  replace k0_2 := keep hb1 k0_2
  replace k0_3 := keep hb1 k0_3
  replace k0_4 := keep hb1 k0_4
  replace k0_5 := keep hb1 k0_5
  replace k0_6 := keep hb1 k0_6
  replace k0_7 := keep hb1 k0_7
  replace HB := below_call HB (Nat.le_refl _) hb1
  clear hb1
  clear h
  go_wp2
  go_ret2
  exact ⟨rfl, HB⟩

set_option maxHeartbeats 4000000 in
set_option maxRecDepth 100000 in
theorem rfair_bad (mq mp xq xp : Int) (dy : Bool) (lf st en at_ : Int) (w : World) (h : ¬ BV mq mp xq xp lf st en) :
    Calls Tryd.prog 41 #[bud mq mp xq xp dy lf st en, .int .i64 at_] w fun e w' => e = .returned (.tuple #[.int .i64 0, .int .i64 270]) ∧ Below w.heap.size w w' := by
  have HB : Below w.heap.size w (w.alloc (.cells #[.int .i64 mq, .int .i64 mp, .int .i64 xq, .int .i64 xp, .bool dy, .int .i64 lf, .int .i64 st, .int .i64 en] 30)) := ((Below.refl _ w).alloc (by simp) _)
  have k0_0 : (w.alloc (.cells #[.int .i64 mq, .int .i64 mp, .int .i64 xq, .int .i64 xp, .bool dy, .int .i64 lf, .int .i64 st, .int .i64 en] 30)).cell? ⟨w.heap.size, 0, none⟩ = some (.int .i64 mq) := by simp
  have k0_1 : (w.alloc (.cells #[.int .i64 mq, .int .i64 mp, .int .i64 xq, .int .i64 xp, .bool dy, .int .i64 lf, .int .i64 st, .int .i64 en] 30)).cell? ⟨w.heap.size, 1, none⟩ = some (.int .i64 mp) := by simp
  have k0_2 : (w.alloc (.cells #[.int .i64 mq, .int .i64 mp, .int .i64 xq, .int .i64 xp, .bool dy, .int .i64 lf, .int .i64 st, .int .i64 en] 30)).cell? ⟨w.heap.size, 2, none⟩ = some (.int .i64 xq) := by simp
  have k0_3 : (w.alloc (.cells #[.int .i64 mq, .int .i64 mp, .int .i64 xq, .int .i64 xp, .bool dy, .int .i64 lf, .int .i64 st, .int .i64 en] 30)).cell? ⟨w.heap.size, 3, none⟩ = some (.int .i64 xp) := by simp
  have k0_4 : (w.alloc (.cells #[.int .i64 mq, .int .i64 mp, .int .i64 xq, .int .i64 xp, .bool dy, .int .i64 lf, .int .i64 st, .int .i64 en] 30)).cell? ⟨w.heap.size, 4, none⟩ = some (.bool dy) := by simp
  have k0_5 : (w.alloc (.cells #[.int .i64 mq, .int .i64 mp, .int .i64 xq, .int .i64 xp, .bool dy, .int .i64 lf, .int .i64 st, .int .i64 en] 30)).cell? ⟨w.heap.size, 5, none⟩ = some (.int .i64 lf) := by simp
  have k0_6 : (w.alloc (.cells #[.int .i64 mq, .int .i64 mp, .int .i64 xq, .int .i64 xp, .bool dy, .int .i64 lf, .int .i64 st, .int .i64 en] 30)).cell? ⟨w.heap.size, 6, none⟩ = some (.int .i64 st) := by simp
  have k0_7 : (w.alloc (.cells #[.int .i64 mq, .int .i64 mp, .int .i64 xq, .int .i64 xp, .bool dy, .int .i64 lf, .int .i64 st, .int .i64 en] 30)).cell? ⟨w.heap.size, 7, none⟩ = some (.int .i64 en) := by simp
  go_enter Tryd.func41, Tryd.ntmps41
  go_wp2_with fail
  refine (rbvalid_bad mq mp xq xp dy lf st en _ h).mono ?_
  rintro e w1 ⟨rfl, hb1⟩
  replace k0_0 := keep hb1 k0_0
  replace k0_1 := keep hb1 k0_1
  replace k0_2 := keep hb1 k0_2
  replace k0_3 := keep hb1 k0_3
  replace k0_4 := keep hb1 k0_4
  replace k0_5 := keep hb1 k0_5
  replace k0_6 := keep hb1 k0_6
  replace k0_7 := keep hb1 k0_7
  replace HB := below_call HB (Nat.le_refl _) hb1
  clear hb1
  go_wp2
  go_ret2
  exact ⟨rfl, HB⟩

set_option maxHeartbeats 4000000 in
set_option maxRecDepth 100000 in
theorem rfair_lo (mq mp xq xp : Int) (dy : Bool) (lf st en at_ : Int) (w : World) (h : BV mq mp xq xp lf st en) (h1 : at_ < st) :
    Calls Tryd.prog 41 #[bud mq mp xq xp dy lf st en, .int .i64 at_] w fun e w' => e = .returned (.tuple #[.int .i64 0, .int .i64 1]) ∧ Below w.heap.size w w' := by
  have c1 : decide (at_ < st) = true := by simp; omega
  have HB : Below w.heap.size w (w.alloc (.cells #[.int .i64 mq, .int .i64 mp, .int .i64 xq, .int .i64 xp, .bool dy, .int .i64 lf, .int .i64 st, .int .i64 en] 30)) := ((Below.refl _ w).alloc (by simp) _)
  have k0_0 : (w.alloc (.cells #[.int .i64 mq, .int .i64 mp, .int .i64 xq, .int .i64 xp, .bool dy, .int .i64 lf, .int .i64 st, .int .i64 en] 30)).cell? ⟨w.heap.size, 0, none⟩ = some (.int .i64 mq) := by simp
  have k0_1 : (w.alloc (.cells #[.int .i64 mq, .int .i64 mp, .int .i64 xq, .int .i64 xp, .bool dy, .int .i64 lf, .int .i64 st, .int .i64 en] 30)).cell? ⟨w.heap.size, 1, none⟩ = some (.int .i64 mp) := by simp
  have k0_2 : (w.alloc (.cells #[.int .i64 mq, .int .i64 mp, .int .i64 xq, .int .i64 xp, .bool dy, .int .i64 lf, .int .i64 st, .int .i64 en] 30)).cell? ⟨w.heap.size, 2, none⟩ = some (.int .i64 xq) := by simp
  have k0_3 : (w.alloc (.cells #[.int .i64 mq, .int .i64 mp, .int .i64 xq, .int .i64 xp, .bool dy, .int .i64 lf, .int .i64 st, .int .i64 en] 30)).cell? ⟨w.heap.size, 3, none⟩ = some (.int .i64 xp) := by simp
  have k0_4 : (w.alloc (.cells #[.int .i64 mq, .int .i64 mp, .int .i64 xq, .int .i64 xp, .bool dy, .int .i64 lf, .int .i64 st, .int .i64 en] 30)).cell? ⟨w.heap.size, 4, none⟩ = some (.bool dy) := by simp
  have k0_5 : (w.alloc (.cells #[.int .i64 mq, .int .i64 mp, .int .i64 xq, .int .i64 xp, .bool dy, .int .i64 lf, .int .i64 st, .int .i64 en] 30)).cell? ⟨w.heap.size, 5, none⟩ = some (.int .i64 lf) := by simp
  have k0_6 : (w.alloc (.cells #[.int .i64 mq, .int .i64 mp, .int .i64 xq, .int .i64 xp, .bool dy, .int .i64 lf, .int .i64 st, .int .i64 en] 30)).cell? ⟨w.heap.size, 6, none⟩ = some (.int .i64 st) := by simp
  have k0_7 : (w.alloc (.cells #[.int .i64 mq, .int .i64 mp, .int .i64 xq, .int .i64 xp, .bool dy, .int .i64 lf, .int .i64 st, .int .i64 en] 30)).cell? ⟨w.heap.size, 7, none⟩ = some (.int .i64 en) := by simp
  go_enter Tryd.func41, Tryd.ntmps41
  go_wp2_with fail
  refine (rbvalid_ok mq mp xq xp dy lf st en _ h).mono ?_
  rintro e w1 ⟨rfl, hb1⟩
  replace k0_0 := keep hb1 k0_0
  replace k0_1 := keep hb1 k0_1
  replace k0_2 := keep hb1 k0_2
  replace k0_3 := keep hb1 k0_3
  replace k0_4 := keep hb1 k0_4
  replace k0_5 := keep hb1 k0_5
  replace k0_6 := keep hb1 k0_6
  replace k0_7 := keep hb1 k0_7
  replace HB := below_call HB (Nat.le_refl _) hb1
  clear hb1
  clear h
  go_wp2
  go_ret2
  exact ⟨rfl, HB⟩

set_option maxHeartbeats 4000000 in
set_option maxRecDepth 100000 in
theorem rfair_hi (mq mp xq xp : Int) (dy : Bool) (lf st en at_ : Int) (w : World) (h : BV mq mp xq xp lf st en) (h1 : ¬ at_ < st) (h2 : en < at_) :
    Calls Tryd.prog 41 #[bud mq mp xq xp dy lf st en, .int .i64 at_] w fun e w' => e = .returned (.tuple #[.int .i64 0, .int .i64 1]) ∧ Below w.heap.size w w' := by
  have c1 : decide (at_ < st) = false := by simp; omega
  have c2 : decide (en < at_) = true := by simp; omega
  have HB : Below w.heap.size w (w.alloc (.cells #[.int .i64 mq, .int .i64 mp, .int .i64 xq, .int .i64 xp, .bool dy, .int .i64 lf, .int .i64 st, .int .i64 en] 30)) := ((Below.refl _ w).alloc (by simp) _)
  have k0_0 : (w.alloc (.cells #[.int .i64 mq, .int .i64 mp, .int .i64 xq, .int .i64 xp, .bool dy, .int .i64 lf, .int .i64 st, .int .i64 en] 30)).cell? ⟨w.heap.size, 0, none⟩ = some (.int .i64 mq) := by simp
  have k0_1 : (w.alloc (.cells #[.int .i64 mq, .int .i64 mp, .int .i64 xq, .int .i64 xp, .bool dy, .int .i64 lf, .int .i64 st, .int .i64 en] 30)).cell? ⟨w.heap.size, 1, none⟩ = some (.int .i64 mp) := by simp
  have k0_2 : (w.alloc (.cells #[.int .i64 mq, .int .i64 mp, .int .i64 xq, .int .i64 xp, .bool dy, .int .i64 lf, .int .i64 st, .int .i64 en] 30)).cell? ⟨w.heap.size, 2, none⟩ = some (.int .i64 xq) := by simp
  have k0_3 : (w.alloc (.cells #[.int .i64 mq, .int .i64 mp, .int .i64 xq, .int .i64 xp, .bool dy, .int .i64 lf, .int .i64 st, .int .i64 en] 30)).cell? ⟨w.heap.size, 3, none⟩ = some (.int .i64 xp) := by simp
  have k0_4 : (w.alloc (.cells #[.int .i64 mq, .int .i64 mp, .int .i64 xq, .int .i64 xp, .bool dy, .int .i64 lf, .int .i64 st, .int .i64 en] 30)).cell? ⟨w.heap.size, 4, none⟩ = some (.bool dy) := by simp
  have k0_5 : (w.alloc (.cells #[.int .i64 mq, .int .i64 mp, .int .i64 xq, .int .i64 xp, .bool dy, .int .i64 lf, .int .i64 st, .int .i64 en] 30)).cell? ⟨w.heap.size, 5, none⟩ = some (.int .i64 lf) := by simp
  have k0_6 : (w.alloc (.cells #[.int .i64 mq, .int .i64 mp, .int .i64 xq, .int .i64 xp, .bool dy, .int .i64 lf, .int .i64 st, .int .i64 en] 30)).cell? ⟨w.heap.size, 6, none⟩ = some (.int .i64 st) := by simp
  have k0_7 : (w.alloc (.cells #[.int .i64 mq, .int .i64 mp, .int .i64 xq, .int .i64 xp, .bool dy, .int .i64 lf, .int .i64 st, .int .i64 en] 30)).cell? ⟨w.heap.size, 7, none⟩ = some (.int .i64 en) := by simp
  go_enter Tryd.func41, Tryd.ntmps41
  go_wp2_with fail
  refine (rbvalid_ok mq mp xq xp dy lf st en _ h).mono ?_
  rintro e w1 ⟨rfl, hb1⟩
  replace k0_0 := keep hb1 k0_0
  replace k0_1 := keep hb1 k0_1
  replace k0_2 := keep hb1 k0_2
  replace k0_3 := keep hb1 k0_3
  replace k0_4 := keep hb1 k0_4
  replace k0_5 := keep hb1 k0_5
  replace k0_6 := keep hb1 k0_6
  replace k0_7 := keep hb1 k0_7
  replace HB := below_call HB (Nat.le_refl _) hb1
  clear hb1
  clear h
  go_wp2
  go_ret2
  exact ⟨rfl, HB⟩

set_option maxHeartbeats 4000000 in
set_option maxRecDepth 100000 in
theorem rfair_ok (mq mp xq xp : Int) (dy : Bool) (lf st en at_ : Int) (w : World) (h : BV mq mp xq xp lf st en) (h1 : ¬ at_ < st) (h2 : ¬ en < at_) :
    Calls Tryd.prog 41 #[bud mq mp xq xp dy lf st en, .int .i64 at_] w fun e w' => e = .returned (.tuple #[.int .i64 (mq * (at_ - st) / mp), .int .i64 0]) ∧ Below w.heap.size w w' := by
  have c1 : decide (at_ < st) = false := by simp; omega
  have c2 : decide (en < at_) = false := by simp; omega
  have v1 := h.1.lo; have v2 := h.1.top; have v3 := h.1.le
  have s0 : 0 ≤ st := h.2.2.2.2.1
  have s1 : st ≤ 1073741824 := h.2.2.2.2.2.1
  have s2 : at_ ≤ st + mp := by have := h.2.2.2.2.2.2; omega
  have fb := fair_bounds h.1 s0 s1 (by omega) s2
  obtain ⟨fb1, fb2⟩ := fb
  have HB : Below w.heap.size w (w.alloc (.cells #[.int .i64 mq, .int .i64 mp, .int .i64 xq, .int .i64 xp, .bool dy, .int .i64 lf, .int .i64 st, .int .i64 en] 30)) := ((Below.refl _ w).alloc (by simp) _)
  have k0_0 : (w.alloc (.cells #[.int .i64 mq, .int .i64 mp, .int .i64 xq, .int .i64 xp, .bool dy, .int .i64 lf, .int .i64 st, .int .i64 en] 30)).cell? ⟨w.heap.size, 0, none⟩ = some (.int .i64 mq) := by simp
  have k0_1 : (w.alloc (.cells #[.int .i64 mq, .int .i64 mp, .int .i64 xq, .int .i64 xp, .bool dy, .int .i64 lf, .int .i64 st, .int .i64 en] 30)).cell? ⟨w.heap.size, 1, none⟩ = some (.int .i64 mp) := by simp
  have k0_2 : (w.alloc (.cells #[.int .i64 mq, .int .i64 mp, .int .i64 xq, .int .i64 xp, .bool dy, .int .i64 lf, .int .i64 st, .int .i64 en] 30)).cell? ⟨w.heap.size, 2, none⟩ = some (.int .i64 xq) := by simp
  have k0_3 : (w.alloc (.cells #[.int .i64 mq, .int .i64 mp, .int .i64 xq, .int .i64 xp, .bool dy, .int .i64 lf, .int .i64 st, .int .i64 en] 30)).cell? ⟨w.heap.size, 3, none⟩ = some (.int .i64 xp) := by simp
  have k0_4 : (w.alloc (.cells #[.int .i64 mq, .int .i64 mp, .int .i64 xq, .int .i64 xp, .bool dy, .int .i64 lf, .int .i64 st, .int .i64 en] 30)).cell? ⟨w.heap.size, 4, none⟩ = some (.bool dy) := by simp
  have k0_5 : (w.alloc (.cells #[.int .i64 mq, .int .i64 mp, .int .i64 xq, .int .i64 xp, .bool dy, .int .i64 lf, .int .i64 st, .int .i64 en] 30)).cell? ⟨w.heap.size, 5, none⟩ = some (.int .i64 lf) := by simp
  have k0_6 : (w.alloc (.cells #[.int .i64 mq, .int .i64 mp, .int .i64 xq, .int .i64 xp, .bool dy, .int .i64 lf, .int .i64 st, .int .i64 en] 30)).cell? ⟨w.heap.size, 6, none⟩ = some (.int .i64 st) := by simp
  have k0_7 : (w.alloc (.cells #[.int .i64 mq, .int .i64 mp, .int .i64 xq, .int .i64 xp, .bool dy, .int .i64 lf, .int .i64 st, .int .i64 en] 30)).cell? ⟨w.heap.size, 7, none⟩ = some (.int .i64 en) := by simp
  go_enter Tryd.func41, Tryd.ntmps41
  go_wp2_with fail
  refine (rbvalid_ok mq mp xq xp dy lf st en _ h).mono ?_
  rintro e w1 ⟨rfl, hb1⟩
  replace k0_0 := keep hb1 k0_0
  replace k0_1 := keep hb1 k0_1
  replace k0_2 := keep hb1 k0_2
  replace k0_3 := keep hb1 k0_3
  replace k0_4 := keep hb1 k0_4
  replace k0_5 := keep hb1 k0_5
  replace k0_6 := keep hb1 k0_6
  replace k0_7 := keep hb1 k0_7
  replace HB := below_call HB (Nat.le_refl _) hb1
  clear hb1
  clear h
  go_wp2
  go_ret2
  exact ⟨rfl, HB⟩

end Go.Proofs.YtggcahcdhjnemaaDoor
