/- The reference's Take and Delete; '==' of budgets; the law package's same and sure, by contract. -/
import Derived.Test.YtggcahcdhjnemaaDoorBud4
set_option linter.unusedVariables false
set_option linter.unusedSimpArgs false
namespace Go.Proofs.YtggcahcdhjnemaaDoor
open Go.RowKit
attribute [local go_sem high] eqRes

set_option maxHeartbeats 2000000 in
set_option maxRecDepth 100000 in
theorem rtake_ok (nq np xq xp : Int) (dy : Bool) (lf st en : Int) (w : World) (h : BV nq np xq xp lf st en) (h0 : lf ≠ 0) :
    Calls Tryd.prog 25 #[bud nq np xq xp dy lf st en] w fun e w' => e = .returned (.tuple #[bud nq np xq xp dy (lf - 1) st en, .int .i64 0]) ∧ Below w.heap.size w w' := by
  have h1 : (lf == 0) = false := by simpa using h0
  have h2 : 0 ≤ lf := h.2.2.1
  have h3 : lf ≤ nq := h.2.2.2.1
  have h4 : nq ≤ 1048576 := by have := h.1.top; have := h.1.le; omega
  have HB : Below w.heap.size w ((w.alloc (.cells #[.int .i64 nq, .int .i64 np, .int .i64 xq, .int .i64 xp, .bool dy, .int .i64 lf, .int .i64 st, .int .i64 en] 30)).alloc (.cells #[.int .i64 0, .int .i64 0, .int .i64 0, .int .i64 0, .bool false, .int .i64 0, .int .i64 0, .int .i64 0] 30)) := (((Below.refl _ w).alloc (by simp) _).alloc (by simp) _)
  have k0_0 : ((w.alloc (.cells #[.int .i64 nq, .int .i64 np, .int .i64 xq, .int .i64 xp, .bool dy, .int .i64 lf, .int .i64 st, .int .i64 en] 30)).alloc (.cells #[.int .i64 0, .int .i64 0, .int .i64 0, .int .i64 0, .bool false, .int .i64 0, .int .i64 0, .int .i64 0] 30)).cell? ⟨w.heap.size, 0, none⟩ = some (.int .i64 nq) := by simp
  have f0_0 : ((w.alloc (.cells #[.int .i64 nq, .int .i64 np, .int .i64 xq, .int .i64 xp, .bool dy, .int .i64 lf, .int .i64 st, .int .i64 en] 30)).alloc (.cells #[.int .i64 0, .int .i64 0, .int .i64 0, .int .i64 0, .bool false, .int .i64 0, .int .i64 0, .int .i64 0] 30)).frozen? ⟨w.heap.size, 0, none⟩ = false := by simp only [frozen?_alloc_cells]; exact frozen_beyond _ _ _ (by omega)
  have k0_1 : ((w.alloc (.cells #[.int .i64 nq, .int .i64 np, .int .i64 xq, .int .i64 xp, .bool dy, .int .i64 lf, .int .i64 st, .int .i64 en] 30)).alloc (.cells #[.int .i64 0, .int .i64 0, .int .i64 0, .int .i64 0, .bool false, .int .i64 0, .int .i64 0, .int .i64 0] 30)).cell? ⟨w.heap.size, 1, none⟩ = some (.int .i64 np) := by simp
  have f0_1 : ((w.alloc (.cells #[.int .i64 nq, .int .i64 np, .int .i64 xq, .int .i64 xp, .bool dy, .int .i64 lf, .int .i64 st, .int .i64 en] 30)).alloc (.cells #[.int .i64 0, .int .i64 0, .int .i64 0, .int .i64 0, .bool false, .int .i64 0, .int .i64 0, .int .i64 0] 30)).frozen? ⟨w.heap.size, 1, none⟩ = false := by simp only [frozen?_alloc_cells]; exact frozen_beyond _ _ _ (by omega)
  have k0_2 : ((w.alloc (.cells #[.int .i64 nq, .int .i64 np, .int .i64 xq, .int .i64 xp, .bool dy, .int .i64 lf, .int .i64 st, .int .i64 en] 30)).alloc (.cells #[.int .i64 0, .int .i64 0, .int .i64 0, .int .i64 0, .bool false, .int .i64 0, .int .i64 0, .int .i64 0] 30)).cell? ⟨w.heap.size, 2, none⟩ = some (.int .i64 xq) := by simp
  have f0_2 : ((w.alloc (.cells #[.int .i64 nq, .int .i64 np, .int .i64 xq, .int .i64 xp, .bool dy, .int .i64 lf, .int .i64 st, .int .i64 en] 30)).alloc (.cells #[.int .i64 0, .int .i64 0, .int .i64 0, .int .i64 0, .bool false, .int .i64 0, .int .i64 0, .int .i64 0] 30)).frozen? ⟨w.heap.size, 2, none⟩ = false := by simp only [frozen?_alloc_cells]; exact frozen_beyond _ _ _ (by omega)
  have k0_3 : ((w.alloc (.cells #[.int .i64 nq, .int .i64 np, .int .i64 xq, .int .i64 xp, .bool dy, .int .i64 lf, .int .i64 st, .int .i64 en] 30)).alloc (.cells #[.int .i64 0, .int .i64 0, .int .i64 0, .int .i64 0, .bool false, .int .i64 0, .int .i64 0, .int .i64 0] 30)).cell? ⟨w.heap.size, 3, none⟩ = some (.int .i64 xp) := by simp
  have f0_3 : ((w.alloc (.cells #[.int .i64 nq, .int .i64 np, .int .i64 xq, .int .i64 xp, .bool dy, .int .i64 lf, .int .i64 st, .int .i64 en] 30)).alloc (.cells #[.int .i64 0, .int .i64 0, .int .i64 0, .int .i64 0, .bool false, .int .i64 0, .int .i64 0, .int .i64 0] 30)).frozen? ⟨w.heap.size, 3, none⟩ = false := by simp only [frozen?_alloc_cells]; exact frozen_beyond _ _ _ (by omega)
  have k0_4 : ((w.alloc (.cells #[.int .i64 nq, .int .i64 np, .int .i64 xq, .int .i64 xp, .bool dy, .int .i64 lf, .int .i64 st, .int .i64 en] 30)).alloc (.cells #[.int .i64 0, .int .i64 0, .int .i64 0, .int .i64 0, .bool false, .int .i64 0, .int .i64 0, .int .i64 0] 30)).cell? ⟨w.heap.size, 4, none⟩ = some (.bool dy) := by simp
  have f0_4 : ((w.alloc (.cells #[.int .i64 nq, .int .i64 np, .int .i64 xq, .int .i64 xp, .bool dy, .int .i64 lf, .int .i64 st, .int .i64 en] 30)).alloc (.cells #[.int .i64 0, .int .i64 0, .int .i64 0, .int .i64 0, .bool false, .int .i64 0, .int .i64 0, .int .i64 0] 30)).frozen? ⟨w.heap.size, 4, none⟩ = false := by simp only [frozen?_alloc_cells]; exact frozen_beyond _ _ _ (by omega)
  have k0_5 : ((w.alloc (.cells #[.int .i64 nq, .int .i64 np, .int .i64 xq, .int .i64 xp, .bool dy, .int .i64 lf, .int .i64 st, .int .i64 en] 30)).alloc (.cells #[.int .i64 0, .int .i64 0, .int .i64 0, .int .i64 0, .bool false, .int .i64 0, .int .i64 0, .int .i64 0] 30)).cell? ⟨w.heap.size, 5, none⟩ = some (.int .i64 lf) := by simp
  have f0_5 : ((w.alloc (.cells #[.int .i64 nq, .int .i64 np, .int .i64 xq, .int .i64 xp, .bool dy, .int .i64 lf, .int .i64 st, .int .i64 en] 30)).alloc (.cells #[.int .i64 0, .int .i64 0, .int .i64 0, .int .i64 0, .bool false, .int .i64 0, .int .i64 0, .int .i64 0] 30)).frozen? ⟨w.heap.size, 5, none⟩ = false := by simp only [frozen?_alloc_cells]; exact frozen_beyond _ _ _ (by omega)
  have k0_6 : ((w.alloc (.cells #[.int .i64 nq, .int .i64 np, .int .i64 xq, .int .i64 xp, .bool dy, .int .i64 lf, .int .i64 st, .int .i64 en] 30)).alloc (.cells #[.int .i64 0, .int .i64 0, .int .i64 0, .int .i64 0, .bool false, .int .i64 0, .int .i64 0, .int .i64 0] 30)).cell? ⟨w.heap.size, 6, none⟩ = some (.int .i64 st) := by simp
  have f0_6 : ((w.alloc (.cells #[.int .i64 nq, .int .i64 np, .int .i64 xq, .int .i64 xp, .bool dy, .int .i64 lf, .int .i64 st, .int .i64 en] 30)).alloc (.cells #[.int .i64 0, .int .i64 0, .int .i64 0, .int .i64 0, .bool false, .int .i64 0, .int .i64 0, .int .i64 0] 30)).frozen? ⟨w.heap.size, 6, none⟩ = false := by simp only [frozen?_alloc_cells]; exact frozen_beyond _ _ _ (by omega)
  have k0_7 : ((w.alloc (.cells #[.int .i64 nq, .int .i64 np, .int .i64 xq, .int .i64 xp, .bool dy, .int .i64 lf, .int .i64 st, .int .i64 en] 30)).alloc (.cells #[.int .i64 0, .int .i64 0, .int .i64 0, .int .i64 0, .bool false, .int .i64 0, .int .i64 0, .int .i64 0] 30)).cell? ⟨w.heap.size, 7, none⟩ = some (.int .i64 en) := by simp
  have f0_7 : ((w.alloc (.cells #[.int .i64 nq, .int .i64 np, .int .i64 xq, .int .i64 xp, .bool dy, .int .i64 lf, .int .i64 st, .int .i64 en] 30)).alloc (.cells #[.int .i64 0, .int .i64 0, .int .i64 0, .int .i64 0, .bool false, .int .i64 0, .int .i64 0, .int .i64 0] 30)).frozen? ⟨w.heap.size, 7, none⟩ = false := by simp only [frozen?_alloc_cells]; exact frozen_beyond _ _ _ (by omega)
  have k1_0 : ((w.alloc (.cells #[.int .i64 nq, .int .i64 np, .int .i64 xq, .int .i64 xp, .bool dy, .int .i64 lf, .int .i64 st, .int .i64 en] 30)).alloc (.cells #[.int .i64 0, .int .i64 0, .int .i64 0, .int .i64 0, .bool false, .int .i64 0, .int .i64 0, .int .i64 0] 30)).cell? ⟨w.heap.size + 1, 0, none⟩ = some (.int .i64 0) := by simp
  have f1_0 : ((w.alloc (.cells #[.int .i64 nq, .int .i64 np, .int .i64 xq, .int .i64 xp, .bool dy, .int .i64 lf, .int .i64 st, .int .i64 en] 30)).alloc (.cells #[.int .i64 0, .int .i64 0, .int .i64 0, .int .i64 0, .bool false, .int .i64 0, .int .i64 0, .int .i64 0] 30)).frozen? ⟨w.heap.size + 1, 0, none⟩ = false := by simp only [frozen?_alloc_cells]; exact frozen_beyond _ _ _ (by omega)
  have k1_1 : ((w.alloc (.cells #[.int .i64 nq, .int .i64 np, .int .i64 xq, .int .i64 xp, .bool dy, .int .i64 lf, .int .i64 st, .int .i64 en] 30)).alloc (.cells #[.int .i64 0, .int .i64 0, .int .i64 0, .int .i64 0, .bool false, .int .i64 0, .int .i64 0, .int .i64 0] 30)).cell? ⟨w.heap.size + 1, 1, none⟩ = some (.int .i64 0) := by simp
  have f1_1 : ((w.alloc (.cells #[.int .i64 nq, .int .i64 np, .int .i64 xq, .int .i64 xp, .bool dy, .int .i64 lf, .int .i64 st, .int .i64 en] 30)).alloc (.cells #[.int .i64 0, .int .i64 0, .int .i64 0, .int .i64 0, .bool false, .int .i64 0, .int .i64 0, .int .i64 0] 30)).frozen? ⟨w.heap.size + 1, 1, none⟩ = false := by simp only [frozen?_alloc_cells]; exact frozen_beyond _ _ _ (by omega)
  have k1_2 : ((w.alloc (.cells #[.int .i64 nq, .int .i64 np, .int .i64 xq, .int .i64 xp, .bool dy, .int .i64 lf, .int .i64 st, .int .i64 en] 30)).alloc (.cells #[.int .i64 0, .int .i64 0, .int .i64 0, .int .i64 0, .bool false, .int .i64 0, .int .i64 0, .int .i64 0] 30)).cell? ⟨w.heap.size + 1, 2, none⟩ = some (.int .i64 0) := by simp
  have f1_2 : ((w.alloc (.cells #[.int .i64 nq, .int .i64 np, .int .i64 xq, .int .i64 xp, .bool dy, .int .i64 lf, .int .i64 st, .int .i64 en] 30)).alloc (.cells #[.int .i64 0, .int .i64 0, .int .i64 0, .int .i64 0, .bool false, .int .i64 0, .int .i64 0, .int .i64 0] 30)).frozen? ⟨w.heap.size + 1, 2, none⟩ = false := by simp only [frozen?_alloc_cells]; exact frozen_beyond _ _ _ (by omega)
  have k1_3 : ((w.alloc (.cells #[.int .i64 nq, .int .i64 np, .int .i64 xq, .int .i64 xp, .bool dy, .int .i64 lf, .int .i64 st, .int .i64 en] 30)).alloc (.cells #[.int .i64 0, .int .i64 0, .int .i64 0, .int .i64 0, .bool false, .int .i64 0, .int .i64 0, .int .i64 0] 30)).cell? ⟨w.heap.size + 1, 3, none⟩ = some (.int .i64 0) := by simp
  have f1_3 : ((w.alloc (.cells #[.int .i64 nq, .int .i64 np, .int .i64 xq, .int .i64 xp, .bool dy, .int .i64 lf, .int .i64 st, .int .i64 en] 30)).alloc (.cells #[.int .i64 0, .int .i64 0, .int .i64 0, .int .i64 0, .bool false, .int .i64 0, .int .i64 0, .int .i64 0] 30)).frozen? ⟨w.heap.size + 1, 3, none⟩ = false := by simp only [frozen?_alloc_cells]; exact frozen_beyond _ _ _ (by omega)
  have k1_4 : ((w.alloc (.cells #[.int .i64 nq, .int .i64 np, .int .i64 xq, .int .i64 xp, .bool dy, .int .i64 lf, .int .i64 st, .int .i64 en] 30)).alloc (.cells #[.int .i64 0, .int .i64 0, .int .i64 0, .int .i64 0, .bool false, .int .i64 0, .int .i64 0, .int .i64 0] 30)).cell? ⟨w.heap.size + 1, 4, none⟩ = some (.bool false) := by simp
  have f1_4 : ((w.alloc (.cells #[.int .i64 nq, .int .i64 np, .int .i64 xq, .int .i64 xp, .bool dy, .int .i64 lf, .int .i64 st, .int .i64 en] 30)).alloc (.cells #[.int .i64 0, .int .i64 0, .int .i64 0, .int .i64 0, .bool false, .int .i64 0, .int .i64 0, .int .i64 0] 30)).frozen? ⟨w.heap.size + 1, 4, none⟩ = false := by simp only [frozen?_alloc_cells]; exact frozen_beyond _ _ _ (by omega)
  have k1_5 : ((w.alloc (.cells #[.int .i64 nq, .int .i64 np, .int .i64 xq, .int .i64 xp, .bool dy, .int .i64 lf, .int .i64 st, .int .i64 en] 30)).alloc (.cells #[.int .i64 0, .int .i64 0, .int .i64 0, .int .i64 0, .bool false, .int .i64 0, .int .i64 0, .int .i64 0] 30)).cell? ⟨w.heap.size + 1, 5, none⟩ = some (.int .i64 0) := by simp
  have f1_5 : ((w.alloc (.cells #[.int .i64 nq, .int .i64 np, .int .i64 xq, .int .i64 xp, .bool dy, .int .i64 lf, .int .i64 st, .int .i64 en] 30)).alloc (.cells #[.int .i64 0, .int .i64 0, .int .i64 0, .int .i64 0, .bool false, .int .i64 0, .int .i64 0, .int .i64 0] 30)).frozen? ⟨w.heap.size + 1, 5, none⟩ = false := by simp only [frozen?_alloc_cells]; exact frozen_beyond _ _ _ (by omega)
  have k1_6 : ((w.alloc (.cells #[.int .i64 nq, .int .i64 np, .int .i64 xq, .int .i64 xp, .bool dy, .int .i64 lf, .int .i64 st, .int .i64 en] 30)).alloc (.cells #[.int .i64 0, .int .i64 0, .int .i64 0, .int .i64 0, .bool false, .int .i64 0, .int .i64 0, .int .i64 0] 30)).cell? ⟨w.heap.size + 1, 6, none⟩ = some (.int .i64 0) := by simp
  have f1_6 : ((w.alloc (.cells #[.int .i64 nq, .int .i64 np, .int .i64 xq, .int .i64 xp, .bool dy, .int .i64 lf, .int .i64 st, .int .i64 en] 30)).alloc (.cells #[.int .i64 0, .int .i64 0, .int .i64 0, .int .i64 0, .bool false, .int .i64 0, .int .i64 0, .int .i64 0] 30)).frozen? ⟨w.heap.size + 1, 6, none⟩ = false := by simp only [frozen?_alloc_cells]; exact frozen_beyond _ _ _ (by omega)
  have k1_7 : ((w.alloc (.cells #[.int .i64 nq, .int .i64 np, .int .i64 xq, .int .i64 xp, .bool dy, .int .i64 lf, .int .i64 st, .int .i64 en] 30)).alloc (.cells #[.int .i64 0, .int .i64 0, .int .i64 0, .int .i64 0, .bool false, .int .i64 0, .int .i64 0, .int .i64 0] 30)).cell? ⟨w.heap.size + 1, 7, none⟩ = some (.int .i64 0) := by simp
  have f1_7 : ((w.alloc (.cells #[.int .i64 nq, .int .i64 np, .int .i64 xq, .int .i64 xp, .bool dy, .int .i64 lf, .int .i64 st, .int .i64 en] 30)).alloc (.cells #[.int .i64 0, .int .i64 0, .int .i64 0, .int .i64 0, .bool false, .int .i64 0, .int .i64 0, .int .i64 0] 30)).frozen? ⟨w.heap.size + 1, 7, none⟩ = false := by simp only [frozen?_alloc_cells]; exact frozen_beyond _ _ _ (by omega)
  have z_ : w.heap.size + 1 < ((w.alloc (.cells #[.int .i64 nq, .int .i64 np, .int .i64 xq, .int .i64 xp, .bool dy, .int .i64 lf, .int .i64 st, .int .i64 en] 30)).alloc (.cells #[.int .i64 0, .int .i64 0, .int .i64 0, .int .i64 0, .bool false, .int .i64 0, .int .i64 0, .int .i64 0] 30)).heap.size := by simp
  go_enter Tryd.func25, Tryd.ntmps25
  go_wp2_with fail
  refine (rbvalid_ok nq np xq xp dy lf st en _ h).mono ?_
  rintro e w1 ⟨rfl, hb1⟩
  replace k0_0 := keep hb1 k0_0
  replace k0_1 := keep hb1 k0_1
  replace k0_2 := keep hb1 k0_2
  replace k0_3 := keep hb1 k0_3
  replace k0_4 := keep hb1 k0_4
  replace k0_5 := keep hb1 k0_5
  replace k0_6 := keep hb1 k0_6
  replace k0_7 := keep hb1 k0_7
  replace k1_0 := keep hb1 k1_0
  replace k1_1 := keep hb1 k1_1
  replace k1_2 := keep hb1 k1_2
  replace k1_3 := keep hb1 k1_3
  replace k1_4 := keep hb1 k1_4
  replace k1_5 := keep hb1 k1_5
  replace k1_6 := keep hb1 k1_6
  replace k1_7 := keep hb1 k1_7
  replace f0_0 := keepf hb1 (by omega) f0_0
  replace f0_1 := keepf hb1 (by omega) f0_1
  replace f0_2 := keepf hb1 (by omega) f0_2
  replace f0_3 := keepf hb1 (by omega) f0_3
  replace f0_4 := keepf hb1 (by omega) f0_4
  replace f0_5 := keepf hb1 (by omega) f0_5
  replace f0_6 := keepf hb1 (by omega) f0_6
  replace f0_7 := keepf hb1 (by omega) f0_7
  replace f1_0 := keepf hb1 (by omega) f1_0
  replace f1_1 := keepf hb1 (by omega) f1_1
  replace f1_2 := keepf hb1 (by omega) f1_2
  replace f1_3 := keepf hb1 (by omega) f1_3
  replace f1_4 := keepf hb1 (by omega) f1_4
  replace f1_5 := keepf hb1 (by omega) f1_5
  replace f1_6 := keepf hb1 (by omega) f1_6
  replace f1_7 := keepf hb1 (by omega) f1_7
  replace z_ := Nat.lt_of_lt_of_le z_ hb1.size
  replace HB := below_call HB (Nat.le_refl _) hb1
  clear hb1
  clear h
  go_wp2
  refine bodyPost_ret (v := .tuple #[bud nq np xq xp dy (lf - 1) st en, .int .i64 0]) (by simp [results, Tryd.results25, go_sem, k1_0, k1_1, k1_2, k1_3, k1_4, k1_5, k1_6, k1_7]) rfl ⟨rfl, ?_⟩
  repeat (first | (with_reducible exact HB) | (with_reducible refine below_drewN' ?_ _) | (with_reducible refine Below.drew ?_) | (with_reducible refine Below.setCell ?_ (by simp <;> omega) _))

set_option maxHeartbeats 2000000 in
set_option maxRecDepth 100000 in
theorem rtake_none (nq np xq xp : Int) (dy : Bool) (lf st en : Int) (w : World) (h : BV nq np xq xp lf st en) (h0 : lf = 0) :
    Calls Tryd.prog 25 #[bud nq np xq xp dy lf st en] w fun e w' => e = .returned (.tuple #[budZ, .int .i64 50]) ∧ Below w.heap.size w w' := by
  subst h0
  have HB : Below w.heap.size w ((w.alloc (.cells #[.int .i64 nq, .int .i64 np, .int .i64 xq, .int .i64 xp, .bool dy, .int .i64 0, .int .i64 st, .int .i64 en] 30)).alloc (.cells #[.int .i64 0, .int .i64 0, .int .i64 0, .int .i64 0, .bool false, .int .i64 0, .int .i64 0, .int .i64 0] 30)) := (((Below.refl _ w).alloc (by simp) _).alloc (by simp) _)
  have k0_0 : ((w.alloc (.cells #[.int .i64 nq, .int .i64 np, .int .i64 xq, .int .i64 xp, .bool dy, .int .i64 0, .int .i64 st, .int .i64 en] 30)).alloc (.cells #[.int .i64 0, .int .i64 0, .int .i64 0, .int .i64 0, .bool false, .int .i64 0, .int .i64 0, .int .i64 0] 30)).cell? ⟨w.heap.size, 0, none⟩ = some (.int .i64 nq) := by simp
  have f0_0 : ((w.alloc (.cells #[.int .i64 nq, .int .i64 np, .int .i64 xq, .int .i64 xp, .bool dy, .int .i64 0, .int .i64 st, .int .i64 en] 30)).alloc (.cells #[.int .i64 0, .int .i64 0, .int .i64 0, .int .i64 0, .bool false, .int .i64 0, .int .i64 0, .int .i64 0] 30)).frozen? ⟨w.heap.size, 0, none⟩ = false := by simp only [frozen?_alloc_cells]; exact frozen_beyond _ _ _ (by omega)
  have k0_1 : ((w.alloc (.cells #[.int .i64 nq, .int .i64 np, .int .i64 xq, .int .i64 xp, .bool dy, .int .i64 0, .int .i64 st, .int .i64 en] 30)).alloc (.cells #[.int .i64 0, .int .i64 0, .int .i64 0, .int .i64 0, .bool false, .int .i64 0, .int .i64 0, .int .i64 0] 30)).cell? ⟨w.heap.size, 1, none⟩ = some (.int .i64 np) := by simp
  have f0_1 : ((w.alloc (.cells #[.int .i64 nq, .int .i64 np, .int .i64 xq, .int .i64 xp, .bool dy, .int .i64 0, .int .i64 st, .int .i64 en] 30)).alloc (.cells #[.int .i64 0, .int .i64 0, .int .i64 0, .int .i64 0, .bool false, .int .i64 0, .int .i64 0, .int .i64 0] 30)).frozen? ⟨w.heap.size, 1, none⟩ = false := by simp only [frozen?_alloc_cells]; exact frozen_beyond _ _ _ (by omega)
  have k0_2 : ((w.alloc (.cells #[.int .i64 nq, .int .i64 np, .int .i64 xq, .int .i64 xp, .bool dy, .int .i64 0, .int .i64 st, .int .i64 en] 30)).alloc (.cells #[.int .i64 0, .int .i64 0, .int .i64 0, .int .i64 0, .bool false, .int .i64 0, .int .i64 0, .int .i64 0] 30)).cell? ⟨w.heap.size, 2, none⟩ = some (.int .i64 xq) := by simp
  have f0_2 : ((w.alloc (.cells #[.int .i64 nq, .int .i64 np, .int .i64 xq, .int .i64 xp, .bool dy, .int .i64 0, .int .i64 st, .int .i64 en] 30)).alloc (.cells #[.int .i64 0, .int .i64 0, .int .i64 0, .int .i64 0, .bool false, .int .i64 0, .int .i64 0, .int .i64 0] 30)).frozen? ⟨w.heap.size, 2, none⟩ = false := by simp only [frozen?_alloc_cells]; exact frozen_beyond _ _ _ (by omega)
  have k0_3 : ((w.alloc (.cells #[.int .i64 nq, .int .i64 np, .int .i64 xq, .int .i64 xp, .bool dy, .int .i64 0, .int .i64 st, .int .i64 en] 30)).alloc (.cells #[.int .i64 0, .int .i64 0, .int .i64 0, .int .i64 0, .bool false, .int .i64 0, .int .i64 0, .int .i64 0] 30)).cell? ⟨w.heap.size, 3, none⟩ = some (.int .i64 xp) := by simp
  have f0_3 : ((w.alloc (.cells #[.int .i64 nq, .int .i64 np, .int .i64 xq, .int .i64 xp, .bool dy, .int .i64 0, .int .i64 st, .int .i64 en] 30)).alloc (.cells #[.int .i64 0, .int .i64 0, .int .i64 0, .int .i64 0, .bool false, .int .i64 0, .int .i64 0, .int .i64 0] 30)).frozen? ⟨w.heap.size, 3, none⟩ = false := by simp only [frozen?_alloc_cells]; exact frozen_beyond _ _ _ (by omega)
  have k0_4 : ((w.alloc (.cells #[.int .i64 nq, .int .i64 np, .int .i64 xq, .int .i64 xp, .bool dy, .int .i64 0, .int .i64 st, .int .i64 en] 30)).alloc (.cells #[.int .i64 0, .int .i64 0, .int .i64 0, .int .i64 0, .bool false, .int .i64 0, .int .i64 0, .int .i64 0] 30)).cell? ⟨w.heap.size, 4, none⟩ = some (.bool dy) := by simp
  have f0_4 : ((w.alloc (.cells #[.int .i64 nq, .int .i64 np, .int .i64 xq, .int .i64 xp, .bool dy, .int .i64 0, .int .i64 st, .int .i64 en] 30)).alloc (.cells #[.int .i64 0, .int .i64 0, .int .i64 0, .int .i64 0, .bool false, .int .i64 0, .int .i64 0, .int .i64 0] 30)).frozen? ⟨w.heap.size, 4, none⟩ = false := by simp only [frozen?_alloc_cells]; exact frozen_beyond _ _ _ (by omega)
  have k0_5 : ((w.alloc (.cells #[.int .i64 nq, .int .i64 np, .int .i64 xq, .int .i64 xp, .bool dy, .int .i64 0, .int .i64 st, .int .i64 en] 30)).alloc (.cells #[.int .i64 0, .int .i64 0, .int .i64 0, .int .i64 0, .bool false, .int .i64 0, .int .i64 0, .int .i64 0] 30)).cell? ⟨w.heap.size, 5, none⟩ = some (.int .i64 0) := by simp
  have f0_5 : ((w.alloc (.cells #[.int .i64 nq, .int .i64 np, .int .i64 xq, .int .i64 xp, .bool dy, .int .i64 0, .int .i64 st, .int .i64 en] 30)).alloc (.cells #[.int .i64 0, .int .i64 0, .int .i64 0, .int .i64 0, .bool false, .int .i64 0, .int .i64 0, .int .i64 0] 30)).frozen? ⟨w.heap.size, 5, none⟩ = false := by simp only [frozen?_alloc_cells]; exact frozen_beyond _ _ _ (by omega)
  have k0_6 : ((w.alloc (.cells #[.int .i64 nq, .int .i64 np, .int .i64 xq, .int .i64 xp, .bool dy, .int .i64 0, .int .i64 st, .int .i64 en] 30)).alloc (.cells #[.int .i64 0, .int .i64 0, .int .i64 0, .int .i64 0, .bool false, .int .i64 0, .int .i64 0, .int .i64 0] 30)).cell? ⟨w.heap.size, 6, none⟩ = some (.int .i64 st) := by simp
  have f0_6 : ((w.alloc (.cells #[.int .i64 nq, .int .i64 np, .int .i64 xq, .int .i64 xp, .bool dy, .int .i64 0, .int .i64 st, .int .i64 en] 30)).alloc (.cells #[.int .i64 0, .int .i64 0, .int .i64 0, .int .i64 0, .bool false, .int .i64 0, .int .i64 0, .int .i64 0] 30)).frozen? ⟨w.heap.size, 6, none⟩ = false := by simp only [frozen?_alloc_cells]; exact frozen_beyond _ _ _ (by omega)
  have k0_7 : ((w.alloc (.cells #[.int .i64 nq, .int .i64 np, .int .i64 xq, .int .i64 xp, .bool dy, .int .i64 0, .int .i64 st, .int .i64 en] 30)).alloc (.cells #[.int .i64 0, .int .i64 0, .int .i64 0, .int .i64 0, .bool false, .int .i64 0, .int .i64 0, .int .i64 0] 30)).cell? ⟨w.heap.size, 7, none⟩ = some (.int .i64 en) := by simp
  have f0_7 : ((w.alloc (.cells #[.int .i64 nq, .int .i64 np, .int .i64 xq, .int .i64 xp, .bool dy, .int .i64 0, .int .i64 st, .int .i64 en] 30)).alloc (.cells #[.int .i64 0, .int .i64 0, .int .i64 0, .int .i64 0, .bool false, .int .i64 0, .int .i64 0, .int .i64 0] 30)).frozen? ⟨w.heap.size, 7, none⟩ = false := by simp only [frozen?_alloc_cells]; exact frozen_beyond _ _ _ (by omega)
  have k1_0 : ((w.alloc (.cells #[.int .i64 nq, .int .i64 np, .int .i64 xq, .int .i64 xp, .bool dy, .int .i64 0, .int .i64 st, .int .i64 en] 30)).alloc (.cells #[.int .i64 0, .int .i64 0, .int .i64 0, .int .i64 0, .bool false, .int .i64 0, .int .i64 0, .int .i64 0] 30)).cell? ⟨w.heap.size + 1, 0, none⟩ = some (.int .i64 0) := by simp
  have f1_0 : ((w.alloc (.cells #[.int .i64 nq, .int .i64 np, .int .i64 xq, .int .i64 xp, .bool dy, .int .i64 0, .int .i64 st, .int .i64 en] 30)).alloc (.cells #[.int .i64 0, .int .i64 0, .int .i64 0, .int .i64 0, .bool false, .int .i64 0, .int .i64 0, .int .i64 0] 30)).frozen? ⟨w.heap.size + 1, 0, none⟩ = false := by simp only [frozen?_alloc_cells]; exact frozen_beyond _ _ _ (by omega)
  have k1_1 : ((w.alloc (.cells #[.int .i64 nq, .int .i64 np, .int .i64 xq, .int .i64 xp, .bool dy, .int .i64 0, .int .i64 st, .int .i64 en] 30)).alloc (.cells #[.int .i64 0, .int .i64 0, .int .i64 0, .int .i64 0, .bool false, .int .i64 0, .int .i64 0, .int .i64 0] 30)).cell? ⟨w.heap.size + 1, 1, none⟩ = some (.int .i64 0) := by simp
  have f1_1 : ((w.alloc (.cells #[.int .i64 nq, .int .i64 np, .int .i64 xq, .int .i64 xp, .bool dy, .int .i64 0, .int .i64 st, .int .i64 en] 30)).alloc (.cells #[.int .i64 0, .int .i64 0, .int .i64 0, .int .i64 0, .bool false, .int .i64 0, .int .i64 0, .int .i64 0] 30)).frozen? ⟨w.heap.size + 1, 1, none⟩ = false := by simp only [frozen?_alloc_cells]; exact frozen_beyond _ _ _ (by omega)
  have k1_2 : ((w.alloc (.cells #[.int .i64 nq, .int .i64 np, .int .i64 xq, .int .i64 xp, .bool dy, .int .i64 0, .int .i64 st, .int .i64 en] 30)).alloc (.cells #[.int .i64 0, .int .i64 0, .int .i64 0, .int .i64 0, .bool false, .int .i64 0, .int .i64 0, .int .i64 0] 30)).cell? ⟨w.heap.size + 1, 2, none⟩ = some (.int .i64 0) := by simp
  have f1_2 : ((w.alloc (.cells #[.int .i64 nq, .int .i64 np, .int .i64 xq, .int .i64 xp, .bool dy, .int .i64 0, .int .i64 st, .int .i64 en] 30)).alloc (.cells #[.int .i64 0, .int .i64 0, .int .i64 0, .int .i64 0, .bool false, .int .i64 0, .int .i64 0, .int .i64 0] 30)).frozen? ⟨w.heap.size + 1, 2, none⟩ = false := by simp only [frozen?_alloc_cells]; exact frozen_beyond _ _ _ (by omega)
  have k1_3 : ((w.alloc (.cells #[.int .i64 nq, .int .i64 np, .int .i64 xq, .int .i64 xp, .bool dy, .int .i64 0, .int .i64 st, .int .i64 en] 30)).alloc (.cells #[.int .i64 0, .int .i64 0, .int .i64 0, .int .i64 0, .bool false, .int .i64 0, .int .i64 0, .int .i64 0] 30)).cell? ⟨w.heap.size + 1, 3, none⟩ = some (.int .i64 0) := by simp
  have f1_3 : ((w.alloc (.cells #[.int .i64 nq, .int .i64 np, .int .i64 xq, .int .i64 xp, .bool dy, .int .i64 0, .int .i64 st, .int .i64 en] 30)).alloc (.cells #[.int .i64 0, .int .i64 0, .int .i64 0, .int .i64 0, .bool false, .int .i64 0, .int .i64 0, .int .i64 0] 30)).frozen? ⟨w.heap.size + 1, 3, none⟩ = false := by simp only [frozen?_alloc_cells]; exact frozen_beyond _ _ _ (by omega)
  have k1_4 : ((w.alloc (.cells #[.int .i64 nq, .int .i64 np, .int .i64 xq, .int .i64 xp, .bool dy, .int .i64 0, .int .i64 st, .int .i64 en] 30)).alloc (.cells #[.int .i64 0, .int .i64 0, .int .i64 0, .int .i64 0, .bool false, .int .i64 0, .int .i64 0, .int .i64 0] 30)).cell? ⟨w.heap.size + 1, 4, none⟩ = some (.bool false) := by simp
  have f1_4 : ((w.alloc (.cells #[.int .i64 nq, .int .i64 np, .int .i64 xq, .int .i64 xp, .bool dy, .int .i64 0, .int .i64 st, .int .i64 en] 30)).alloc (.cells #[.int .i64 0, .int .i64 0, .int .i64 0, .int .i64 0, .bool false, .int .i64 0, .int .i64 0, .int .i64 0] 30)).frozen? ⟨w.heap.size + 1, 4, none⟩ = false := by simp only [frozen?_alloc_cells]; exact frozen_beyond _ _ _ (by omega)
  have k1_5 : ((w.alloc (.cells #[.int .i64 nq, .int .i64 np, .int .i64 xq, .int .i64 xp, .bool dy, .int .i64 0, .int .i64 st, .int .i64 en] 30)).alloc (.cells #[.int .i64 0, .int .i64 0, .int .i64 0, .int .i64 0, .bool false, .int .i64 0, .int .i64 0, .int .i64 0] 30)).cell? ⟨w.heap.size + 1, 5, none⟩ = some (.int .i64 0) := by simp
  have f1_5 : ((w.alloc (.cells #[.int .i64 nq, .int .i64 np, .int .i64 xq, .int .i64 xp, .bool dy, .int .i64 0, .int .i64 st, .int .i64 en] 30)).alloc (.cells #[.int .i64 0, .int .i64 0, .int .i64 0, .int .i64 0, .bool false, .int .i64 0, .int .i64 0, .int .i64 0] 30)).frozen? ⟨w.heap.size + 1, 5, none⟩ = false := by simp only [frozen?_alloc_cells]; exact frozen_beyond _ _ _ (by omega)
  have k1_6 : ((w.alloc (.cells #[.int .i64 nq, .int .i64 np, .int .i64 xq, .int .i64 xp, .bool dy, .int .i64 0, .int .i64 st, .int .i64 en] 30)).alloc (.cells #[.int .i64 0, .int .i64 0, .int .i64 0, .int .i64 0, .bool false, .int .i64 0, .int .i64 0, .int .i64 0] 30)).cell? ⟨w.heap.size + 1, 6, none⟩ = some (.int .i64 0) := by simp
  have f1_6 : ((w.alloc (.cells #[.int .i64 nq, .int .i64 np, .int .i64 xq, .int .i64 xp, .bool dy, .int .i64 0, .int .i64 st, .int .i64 en] 30)).alloc (.cells #[.int .i64 0, .int .i64 0, .int .i64 0, .int .i64 0, .bool false, .int .i64 0, .int .i64 0, .int .i64 0] 30)).frozen? ⟨w.heap.size + 1, 6, none⟩ = false := by simp only [frozen?_alloc_cells]; exact frozen_beyond _ _ _ (by omega)
  have k1_7 : ((w.alloc (.cells #[.int .i64 nq, .int .i64 np, .int .i64 xq, .int .i64 xp, .bool dy, .int .i64 0, .int .i64 st, .int .i64 en] 30)).alloc (.cells #[.int .i64 0, .int .i64 0, .int .i64 0, .int .i64 0, .bool false, .int .i64 0, .int .i64 0, .int .i64 0] 30)).cell? ⟨w.heap.size + 1, 7, none⟩ = some (.int .i64 0) := by simp
  have f1_7 : ((w.alloc (.cells #[.int .i64 nq, .int .i64 np, .int .i64 xq, .int .i64 xp, .bool dy, .int .i64 0, .int .i64 st, .int .i64 en] 30)).alloc (.cells #[.int .i64 0, .int .i64 0, .int .i64 0, .int .i64 0, .bool false, .int .i64 0, .int .i64 0, .int .i64 0] 30)).frozen? ⟨w.heap.size + 1, 7, none⟩ = false := by simp only [frozen?_alloc_cells]; exact frozen_beyond _ _ _ (by omega)
  have z_ : w.heap.size + 1 < ((w.alloc (.cells #[.int .i64 nq, .int .i64 np, .int .i64 xq, .int .i64 xp, .bool dy, .int .i64 0, .int .i64 st, .int .i64 en] 30)).alloc (.cells #[.int .i64 0, .int .i64 0, .int .i64 0, .int .i64 0, .bool false, .int .i64 0, .int .i64 0, .int .i64 0] 30)).heap.size := by simp
  go_enter Tryd.func25, Tryd.ntmps25
  go_wp2_with fail
  refine (rbvalid_ok nq np xq xp dy 0 st en _ h).mono ?_
  rintro e w1 ⟨rfl, hb1⟩
  replace k0_0 := keep hb1 k0_0
  replace k0_1 := keep hb1 k0_1
  replace k0_2 := keep hb1 k0_2
  replace k0_3 := keep hb1 k0_3
  replace k0_4 := keep hb1 k0_4
  replace k0_5 := keep hb1 k0_5
  replace k0_6 := keep hb1 k0_6
  replace k0_7 := keep hb1 k0_7
  replace k1_0 := keep hb1 k1_0
  replace k1_1 := keep hb1 k1_1
  replace k1_2 := keep hb1 k1_2
  replace k1_3 := keep hb1 k1_3
  replace k1_4 := keep hb1 k1_4
  replace k1_5 := keep hb1 k1_5
  replace k1_6 := keep hb1 k1_6
  replace k1_7 := keep hb1 k1_7
  replace f0_0 := keepf hb1 (by omega) f0_0
  replace f0_1 := keepf hb1 (by omega) f0_1
  replace f0_2 := keepf hb1 (by omega) f0_2
  replace f0_3 := keepf hb1 (by omega) f0_3
  replace f0_4 := keepf hb1 (by omega) f0_4
  replace f0_5 := keepf hb1 (by omega) f0_5
  replace f0_6 := keepf hb1 (by omega) f0_6
  replace f0_7 := keepf hb1 (by omega) f0_7
  replace f1_0 := keepf hb1 (by omega) f1_0
  replace f1_1 := keepf hb1 (by omega) f1_1
  replace f1_2 := keepf hb1 (by omega) f1_2
  replace f1_3 := keepf hb1 (by omega) f1_3
  replace f1_4 := keepf hb1 (by omega) f1_4
  replace f1_5 := keepf hb1 (by omega) f1_5
  replace f1_6 := keepf hb1 (by omega) f1_6
  replace f1_7 := keepf hb1 (by omega) f1_7
  replace z_ := Nat.lt_of_lt_of_le z_ hb1.size
  replace HB := below_call HB (Nat.le_refl _) hb1
  clear hb1
  clear h
  go_wp2
  refine bodyPost_ret (v := .tuple #[budZ, .int .i64 50]) (by simp [results, Tryd.results25, go_sem, k1_0, k1_1, k1_2, k1_3, k1_4, k1_5, k1_6, k1_7]) rfl ⟨rfl, ?_⟩
  repeat (first | (with_reducible exact HB) | (with_reducible refine below_drewN' ?_ _) | (with_reducible refine Below.drew ?_) | (with_reducible refine Below.setCell ?_ (by simp <;> omega) _))

set_option maxHeartbeats 2000000 in
set_option maxRecDepth 100000 in
theorem rtake_bad (nq np xq xp : Int) (dy : Bool) (lf st en : Int) (w : World) (h : ¬ BV nq np xq xp lf st en) :
    Calls Tryd.prog 25 #[bud nq np xq xp dy lf st en] w fun e w' => e = .returned (.tuple #[budZ, .int .i64 270]) ∧ Below w.heap.size w w' := by
  have HB : Below w.heap.size w ((w.alloc (.cells #[.int .i64 nq, .int .i64 np, .int .i64 xq, .int .i64 xp, .bool dy, .int .i64 lf, .int .i64 st, .int .i64 en] 30)).alloc (.cells #[.int .i64 0, .int .i64 0, .int .i64 0, .int .i64 0, .bool false, .int .i64 0, .int .i64 0, .int .i64 0] 30)) := (((Below.refl _ w).alloc (by simp) _).alloc (by simp) _)
  have k0_0 : ((w.alloc (.cells #[.int .i64 nq, .int .i64 np, .int .i64 xq, .int .i64 xp, .bool dy, .int .i64 lf, .int .i64 st, .int .i64 en] 30)).alloc (.cells #[.int .i64 0, .int .i64 0, .int .i64 0, .int .i64 0, .bool false, .int .i64 0, .int .i64 0, .int .i64 0] 30)).cell? ⟨w.heap.size, 0, none⟩ = some (.int .i64 nq) := by simp
  have f0_0 : ((w.alloc (.cells #[.int .i64 nq, .int .i64 np, .int .i64 xq, .int .i64 xp, .bool dy, .int .i64 lf, .int .i64 st, .int .i64 en] 30)).alloc (.cells #[.int .i64 0, .int .i64 0, .int .i64 0, .int .i64 0, .bool false, .int .i64 0, .int .i64 0, .int .i64 0] 30)).frozen? ⟨w.heap.size, 0, none⟩ = false := by simp only [frozen?_alloc_cells]; exact frozen_beyond _ _ _ (by omega)
  have k0_1 : ((w.alloc (.cells #[.int .i64 nq, .int .i64 np, .int .i64 xq, .int .i64 xp, .bool dy, .int .i64 lf, .int .i64 st, .int .i64 en] 30)).alloc (.cells #[.int .i64 0, .int .i64 0, .int .i64 0, .int .i64 0, .bool false, .int .i64 0, .int .i64 0, .int .i64 0] 30)).cell? ⟨w.heap.size, 1, none⟩ = some (.int .i64 np) := by simp
  have f0_1 : ((w.alloc (.cells #[.int .i64 nq, .int .i64 np, .int .i64 xq, .int .i64 xp, .bool dy, .int .i64 lf, .int .i64 st, .int .i64 en] 30)).alloc (.cells #[.int .i64 0, .int .i64 0, .int .i64 0, .int .i64 0, .bool false, .int .i64 0, .int .i64 0, .int .i64 0] 30)).frozen? ⟨w.heap.size, 1, none⟩ = false := by simp only [frozen?_alloc_cells]; exact frozen_beyond _ _ _ (by omega)
  have k0_2 : ((w.alloc (.cells #[.int .i64 nq, .int .i64 np, .int .i64 xq, .int .i64 xp, .bool dy, .int .i64 lf, .int .i64 st, .int .i64 en] 30)).alloc (.cells #[.int .i64 0, .int .i64 0, .int .i64 0, .int .i64 0, .bool false, .int .i64 0, .int .i64 0, .int .i64 0] 30)).cell? ⟨w.heap.size, 2, none⟩ = some (.int .i64 xq) := by simp
  have f0_2 : ((w.alloc (.cells #[.int .i64 nq, .int .i64 np, .int .i64 xq, .int .i64 xp, .bool dy, .int .i64 lf, .int .i64 st, .int .i64 en] 30)).alloc (.cells #[.int .i64 0, .int .i64 0, .int .i64 0, .int .i64 0, .bool false, .int .i64 0, .int .i64 0, .int .i64 0] 30)).frozen? ⟨w.heap.size, 2, none⟩ = false := by simp only [frozen?_alloc_cells]; exact frozen_beyond _ _ _ (by omega)
  have k0_3 : ((w.alloc (.cells #[.int .i64 nq, .int .i64 np, .int .i64 xq, .int .i64 xp, .bool dy, .int .i64 lf, .int .i64 st, .int .i64 en] 30)).alloc (.cells #[.int .i64 0, .int .i64 0, .int .i64 0, .int .i64 0, .bool false, .int .i64 0, .int .i64 0, .int .i64 0] 30)).cell? ⟨w.heap.size, 3, none⟩ = some (.int .i64 xp) := by simp
  have f0_3 : ((w.alloc (.cells #[.int .i64 nq, .int .i64 np, .int .i64 xq, .int .i64 xp, .bool dy, .int .i64 lf, .int .i64 st, .int .i64 en] 30)).alloc (.cells #[.int .i64 0, .int .i64 0, .int .i64 0, .int .i64 0, .bool false, .int .i64 0, .int .i64 0, .int .i64 0] 30)).frozen? ⟨w.heap.size, 3, none⟩ = false := by simp only [frozen?_alloc_cells]; exact frozen_beyond _ _ _ (by omega)
  have k0_4 : ((w.alloc (.cells #[.int .i64 nq, .int .i64 np, .int .i64 xq, .int .i64 xp, .bool dy, .int .i64 lf, .int .i64 st, .int .i64 en] 30)).alloc (.cells #[.int .i64 0, .int .i64 0, .int .i64 0, .int .i64 0, .bool false, .int .i64 0, .int .i64 0, .int .i64 0] 30)).cell? ⟨w.heap.size, 4, none⟩ = some (.bool dy) := by simp
  have f0_4 : ((w.alloc (.cells #[.int .i64 nq, .int .i64 np, .int .i64 xq, .int .i64 xp, .bool dy, .int .i64 lf, .int .i64 st, .int .i64 en] 30)).alloc (.cells #[.int .i64 0, .int .i64 0, .int .i64 0, .int .i64 0, .bool false, .int .i64 0, .int .i64 0, .int .i64 0] 30)).frozen? ⟨w.heap.size, 4, none⟩ = false := by simp only [frozen?_alloc_cells]; exact frozen_beyond _ _ _ (by omega)
  have k0_5 : ((w.alloc (.cells #[.int .i64 nq, .int .i64 np, .int .i64 xq, .int .i64 xp, .bool dy, .int .i64 lf, .int .i64 st, .int .i64 en] 30)).alloc (.cells #[.int .i64 0, .int .i64 0, .int .i64 0, .int .i64 0, .bool false, .int .i64 0, .int .i64 0, .int .i64 0] 30)).cell? ⟨w.heap.size, 5, none⟩ = some (.int .i64 lf) := by simp
  have f0_5 : ((w.alloc (.cells #[.int .i64 nq, .int .i64 np, .int .i64 xq, .int .i64 xp, .bool dy, .int .i64 lf, .int .i64 st, .int .i64 en] 30)).alloc (.cells #[.int .i64 0, .int .i64 0, .int .i64 0, .int .i64 0, .bool false, .int .i64 0, .int .i64 0, .int .i64 0] 30)).frozen? ⟨w.heap.size, 5, none⟩ = false := by simp only [frozen?_alloc_cells]; exact frozen_beyond _ _ _ (by omega)
  have k0_6 : ((w.alloc (.cells #[.int .i64 nq, .int .i64 np, .int .i64 xq, .int .i64 xp, .bool dy, .int .i64 lf, .int .i64 st, .int .i64 en] 30)).alloc (.cells #[.int .i64 0, .int .i64 0, .int .i64 0, .int .i64 0, .bool false, .int .i64 0, .int .i64 0, .int .i64 0] 30)).cell? ⟨w.heap.size, 6, none⟩ = some (.int .i64 st) := by simp
  have f0_6 : ((w.alloc (.cells #[.int .i64 nq, .int .i64 np, .int .i64 xq, .int .i64 xp, .bool dy, .int .i64 lf, .int .i64 st, .int .i64 en] 30)).alloc (.cells #[.int .i64 0, .int .i64 0, .int .i64 0, .int .i64 0, .bool false, .int .i64 0, .int .i64 0, .int .i64 0] 30)).frozen? ⟨w.heap.size, 6, none⟩ = false := by simp only [frozen?_alloc_cells]; exact frozen_beyond _ _ _ (by omega)
  have k0_7 : ((w.alloc (.cells #[.int .i64 nq, .int .i64 np, .int .i64 xq, .int .i64 xp, .bool dy, .int .i64 lf, .int .i64 st, .int .i64 en] 30)).alloc (.cells #[.int .i64 0, .int .i64 0, .int .i64 0, .int .i64 0, .bool false, .int .i64 0, .int .i64 0, .int .i64 0] 30)).cell? ⟨w.heap.size, 7, none⟩ = some (.int .i64 en) := by simp
  have f0_7 : ((w.alloc (.cells #[.int .i64 nq, .int .i64 np, .int .i64 xq, .int .i64 xp, .bool dy, .int .i64 lf, .int .i64 st, .int .i64 en] 30)).alloc (.cells #[.int .i64 0, .int .i64 0, .int .i64 0, .int .i64 0, .bool false, .int .i64 0, .int .i64 0, .int .i64 0] 30)).frozen? ⟨w.heap.size, 7, none⟩ = false := by simp only [frozen?_alloc_cells]; exact frozen_beyond _ _ _ (by omega)
  have k1_0 : ((w.alloc (.cells #[.int .i64 nq, .int .i64 np, .int .i64 xq, .int .i64 xp, .bool dy, .int .i64 lf, .int .i64 st, .int .i64 en] 30)).alloc (.cells #[.int .i64 0, .int .i64 0, .int .i64 0, .int .i64 0, .bool false, .int .i64 0, .int .i64 0, .int .i64 0] 30)).cell? ⟨w.heap.size + 1, 0, none⟩ = some (.int .i64 0) := by simp
  have f1_0 : ((w.alloc (.cells #[.int .i64 nq, .int .i64 np, .int .i64 xq, .int .i64 xp, .bool dy, .int .i64 lf, .int .i64 st, .int .i64 en] 30)).alloc (.cells #[.int .i64 0, .int .i64 0, .int .i64 0, .int .i64 0, .bool false, .int .i64 0, .int .i64 0, .int .i64 0] 30)).frozen? ⟨w.heap.size + 1, 0, none⟩ = false := by simp only [frozen?_alloc_cells]; exact frozen_beyond _ _ _ (by omega)
  have k1_1 : ((w.alloc (.cells #[.int .i64 nq, .int .i64 np, .int .i64 xq, .int .i64 xp, .bool dy, .int .i64 lf, .int .i64 st, .int .i64 en] 30)).alloc (.cells #[.int .i64 0, .int .i64 0, .int .i64 0, .int .i64 0, .bool false, .int .i64 0, .int .i64 0, .int .i64 0] 30)).cell? ⟨w.heap.size + 1, 1, none⟩ = some (.int .i64 0) := by simp
  have f1_1 : ((w.alloc (.cells #[.int .i64 nq, .int .i64 np, .int .i64 xq, .int .i64 xp, .bool dy, .int .i64 lf, .int .i64 st, .int .i64 en] 30)).alloc (.cells #[.int .i64 0, .int .i64 0, .int .i64 0, .int .i64 0, .bool false, .int .i64 0, .int .i64 0, .int .i64 0] 30)).frozen? ⟨w.heap.size + 1, 1, none⟩ = false := by simp only [frozen?_alloc_cells]; exact frozen_beyond _ _ _ (by omega)
  have k1_2 : ((w.alloc (.cells #[.int .i64 nq, .int .i64 np, .int .i64 xq, .int .i64 xp, .bool dy, .int .i64 lf, .int .i64 st, .int .i64 en] 30)).alloc (.cells #[.int .i64 0, .int .i64 0, .int .i64 0, .int .i64 0, .bool false, .int .i64 0, .int .i64 0, .int .i64 0] 30)).cell? ⟨w.heap.size + 1, 2, none⟩ = some (.int .i64 0) := by simp
  have f1_2 : ((w.alloc (.cells #[.int .i64 nq, .int .i64 np, .int .i64 xq, .int .i64 xp, .bool dy, .int .i64 lf, .int .i64 st, .int .i64 en] 30)).alloc (.cells #[.int .i64 0, .int .i64 0, .int .i64 0, .int .i64 0, .bool false, .int .i64 0, .int .i64 0, .int .i64 0] 30)).frozen? ⟨w.heap.size + 1, 2, none⟩ = false := by simp only [frozen?_alloc_cells]; exact frozen_beyond _ _ _ (by omega)
  have k1_3 : ((w.alloc (.cells #[.int .i64 nq, .int .i64 np, .int .i64 xq, .int .i64 xp, .bool dy, .int .i64 lf, .int .i64 st, .int .i64 en] 30)).alloc (.cells #[.int .i64 0, .int .i64 0, .int .i64 0, .int .i64 0, .bool false, .int .i64 0, .int .i64 0, .int .i64 0] 30)).cell? ⟨w.heap.size + 1, 3, none⟩ = some (.int .i64 0) := by simp
  have f1_3 : ((w.alloc (.cells #[.int .i64 nq, .int .i64 np, .int .i64 xq, .int .i64 xp, .bool dy, .int .i64 lf, .int .i64 st, .int .i64 en] 30)).alloc (.cells #[.int .i64 0, .int .i64 0, .int .i64 0, .int .i64 0, .bool false, .int .i64 0, .int .i64 0, .int .i64 0] 30)).frozen? ⟨w.heap.size + 1, 3, none⟩ = false := by simp only [frozen?_alloc_cells]; exact frozen_beyond _ _ _ (by omega)
  have k1_4 : ((w.alloc (.cells #[.int .i64 nq, .int .i64 np, .int .i64 xq, .int .i64 xp, .bool dy, .int .i64 lf, .int .i64 st, .int .i64 en] 30)).alloc (.cells #[.int .i64 0, .int .i64 0, .int .i64 0, .int .i64 0, .bool false, .int .i64 0, .int .i64 0, .int .i64 0] 30)).cell? ⟨w.heap.size + 1, 4, none⟩ = some (.bool false) := by simp
  have f1_4 : ((w.alloc (.cells #[.int .i64 nq, .int .i64 np, .int .i64 xq, .int .i64 xp, .bool dy, .int .i64 lf, .int .i64 st, .int .i64 en] 30)).alloc (.cells #[.int .i64 0, .int .i64 0, .int .i64 0, .int .i64 0, .bool false, .int .i64 0, .int .i64 0, .int .i64 0] 30)).frozen? ⟨w.heap.size + 1, 4, none⟩ = false := by simp only [frozen?_alloc_cells]; exact frozen_beyond _ _ _ (by omega)
  have k1_5 : ((w.alloc (.cells #[.int .i64 nq, .int .i64 np, .int .i64 xq, .int .i64 xp, .bool dy, .int .i64 lf, .int .i64 st, .int .i64 en] 30)).alloc (.cells #[.int .i64 0, .int .i64 0, .int .i64 0, .int .i64 0, .bool false, .int .i64 0, .int .i64 0, .int .i64 0] 30)).cell? ⟨w.heap.size + 1, 5, none⟩ = some (.int .i64 0) := by simp
  have f1_5 : ((w.alloc (.cells #[.int .i64 nq, .int .i64 np, .int .i64 xq, .int .i64 xp, .bool dy, .int .i64 lf, .int .i64 st, .int .i64 en] 30)).alloc (.cells #[.int .i64 0, .int .i64 0, .int .i64 0, .int .i64 0, .bool false, .int .i64 0, .int .i64 0, .int .i64 0] 30)).frozen? ⟨w.heap.size + 1, 5, none⟩ = false := by simp only [frozen?_alloc_cells]; exact frozen_beyond _ _ _ (by omega)
  have k1_6 : ((w.alloc (.cells #[.int .i64 nq, .int .i64 np, .int .i64 xq, .int .i64 xp, .bool dy, .int .i64 lf, .int .i64 st, .int .i64 en] 30)).alloc (.cells #[.int .i64 0, .int .i64 0, .int .i64 0, .int .i64 0, .bool false, .int .i64 0, .int .i64 0, .int .i64 0] 30)).cell? ⟨w.heap.size + 1, 6, none⟩ = some (.int .i64 0) := by simp
  have f1_6 : ((w.alloc (.cells #[.int .i64 nq, .int .i64 np, .int .i64 xq, .int .i64 xp, .bool dy, .int .i64 lf, .int .i64 st, .int .i64 en] 30)).alloc (.cells #[.int .i64 0, .int .i64 0, .int .i64 0, .int .i64 0, .bool false, .int .i64 0, .int .i64 0, .int .i64 0] 30)).frozen? ⟨w.heap.size + 1, 6, none⟩ = false := by simp only [frozen?_alloc_cells]; exact frozen_beyond _ _ _ (by omega)
  have k1_7 : ((w.alloc (.cells #[.int .i64 nq, .int .i64 np, .int .i64 xq, .int .i64 xp, .bool dy, .int .i64 lf, .int .i64 st, .int .i64 en] 30)).alloc (.cells #[.int .i64 0, .int .i64 0, .int .i64 0, .int .i64 0, .bool false, .int .i64 0, .int .i64 0, .int .i64 0] 30)).cell? ⟨w.heap.size + 1, 7, none⟩ = some (.int .i64 0) := by simp
  have f1_7 : ((w.alloc (.cells #[.int .i64 nq, .int .i64 np, .int .i64 xq, .int .i64 xp, .bool dy, .int .i64 lf, .int .i64 st, .int .i64 en] 30)).alloc (.cells #[.int .i64 0, .int .i64 0, .int .i64 0, .int .i64 0, .bool false, .int .i64 0, .int .i64 0, .int .i64 0] 30)).frozen? ⟨w.heap.size + 1, 7, none⟩ = false := by simp only [frozen?_alloc_cells]; exact frozen_beyond _ _ _ (by omega)
  have z_ : w.heap.size + 1 < ((w.alloc (.cells #[.int .i64 nq, .int .i64 np, .int .i64 xq, .int .i64 xp, .bool dy, .int .i64 lf, .int .i64 st, .int .i64 en] 30)).alloc (.cells #[.int .i64 0, .int .i64 0, .int .i64 0, .int .i64 0, .bool false, .int .i64 0, .int .i64 0, .int .i64 0] 30)).heap.size := by simp
  go_enter Tryd.func25, Tryd.ntmps25
  go_wp2_with fail
  refine (rbvalid_bad nq np xq xp dy lf st en _ h).mono ?_
  rintro e w1 ⟨rfl, hb1⟩
  replace k0_0 := keep hb1 k0_0
  replace k0_1 := keep hb1 k0_1
  replace k0_2 := keep hb1 k0_2
  replace k0_3 := keep hb1 k0_3
  replace k0_4 := keep hb1 k0_4
  replace k0_5 := keep hb1 k0_5
  replace k0_6 := keep hb1 k0_6
  replace k0_7 := keep hb1 k0_7
  replace k1_0 := keep hb1 k1_0
  replace k1_1 := keep hb1 k1_1
  replace k1_2 := keep hb1 k1_2
  replace k1_3 := keep hb1 k1_3
  replace k1_4 := keep hb1 k1_4
  replace k1_5 := keep hb1 k1_5
  replace k1_6 := keep hb1 k1_6
  replace k1_7 := keep hb1 k1_7
  replace f0_0 := keepf hb1 (by omega) f0_0
  replace f0_1 := keepf hb1 (by omega) f0_1
  replace f0_2 := keepf hb1 (by omega) f0_2
  replace f0_3 := keepf hb1 (by omega) f0_3
  replace f0_4 := keepf hb1 (by omega) f0_4
  replace f0_5 := keepf hb1 (by omega) f0_5
  replace f0_6 := keepf hb1 (by omega) f0_6
  replace f0_7 := keepf hb1 (by omega) f0_7
  replace f1_0 := keepf hb1 (by omega) f1_0
  replace f1_1 := keepf hb1 (by omega) f1_1
  replace f1_2 := keepf hb1 (by omega) f1_2
  replace f1_3 := keepf hb1 (by omega) f1_3
  replace f1_4 := keepf hb1 (by omega) f1_4
  replace f1_5 := keepf hb1 (by omega) f1_5
  replace f1_6 := keepf hb1 (by omega) f1_6
  replace f1_7 := keepf hb1 (by omega) f1_7
  replace z_ := Nat.lt_of_lt_of_le z_ hb1.size
  replace HB := below_call HB (Nat.le_refl _) hb1
  clear hb1
  clear h
  go_wp2
  refine bodyPost_ret (v := .tuple #[budZ, .int .i64 270]) (by simp [results, Tryd.results25, go_sem, k1_0, k1_1, k1_2, k1_3, k1_4, k1_5, k1_6, k1_7]) rfl ⟨rfl, ?_⟩
  repeat (first | (with_reducible exact HB) | (with_reducible refine below_drewN' ?_ _) | (with_reducible refine Below.drew ?_) | (with_reducible refine Below.setCell ?_ (by simp <;> omega) _))

set_option maxHeartbeats 2000000 in
set_option maxRecDepth 100000 in
theorem rdel_ok (nq np xq xp : Int) (lf st en : Int) (w : World) (h : BV nq np xq xp lf st en) :
    Calls Tryd.prog 27 #[bud nq np xq xp false lf st en] w fun e w' => e = .returned (.tuple #[bud nq np xq xp true lf st en, .int .i64 0]) ∧ Below w.heap.size w w' := by
  have HB : Below w.heap.size w ((w.alloc (.cells #[.int .i64 nq, .int .i64 np, .int .i64 xq, .int .i64 xp, .bool false, .int .i64 lf, .int .i64 st, .int .i64 en] 30)).alloc (.cells #[.int .i64 0, .int .i64 0, .int .i64 0, .int .i64 0, .bool false, .int .i64 0, .int .i64 0, .int .i64 0] 30)) := (((Below.refl _ w).alloc (by simp) _).alloc (by simp) _)
  have k0_0 : ((w.alloc (.cells #[.int .i64 nq, .int .i64 np, .int .i64 xq, .int .i64 xp, .bool false, .int .i64 lf, .int .i64 st, .int .i64 en] 30)).alloc (.cells #[.int .i64 0, .int .i64 0, .int .i64 0, .int .i64 0, .bool false, .int .i64 0, .int .i64 0, .int .i64 0] 30)).cell? ⟨w.heap.size, 0, none⟩ = some (.int .i64 nq) := by simp
  have f0_0 : ((w.alloc (.cells #[.int .i64 nq, .int .i64 np, .int .i64 xq, .int .i64 xp, .bool false, .int .i64 lf, .int .i64 st, .int .i64 en] 30)).alloc (.cells #[.int .i64 0, .int .i64 0, .int .i64 0, .int .i64 0, .bool false, .int .i64 0, .int .i64 0, .int .i64 0] 30)).frozen? ⟨w.heap.size, 0, none⟩ = false := by simp only [frozen?_alloc_cells]; exact frozen_beyond _ _ _ (by omega)
  have k0_1 : ((w.alloc (.cells #[.int .i64 nq, .int .i64 np, .int .i64 xq, .int .i64 xp, .bool false, .int .i64 lf, .int .i64 st, .int .i64 en] 30)).alloc (.cells #[.int .i64 0, .int .i64 0, .int .i64 0, .int .i64 0, .bool false, .int .i64 0, .int .i64 0, .int .i64 0] 30)).cell? ⟨w.heap.size, 1, none⟩ = some (.int .i64 np) := by simp
  have f0_1 : ((w.alloc (.cells #[.int .i64 nq, .int .i64 np, .int .i64 xq, .int .i64 xp, .bool false, .int .i64 lf, .int .i64 st, .int .i64 en] 30)).alloc (.cells #[.int .i64 0, .int .i64 0, .int .i64 0, .int .i64 0, .bool false, .int .i64 0, .int .i64 0, .int .i64 0] 30)).frozen? ⟨w.heap.size, 1, none⟩ = false := by simp only [frozen?_alloc_cells]; exact frozen_beyond _ _ _ (by omega)
  have k0_2 : ((w.alloc (.cells #[.int .i64 nq, .int .i64 np, .int .i64 xq, .int .i64 xp, .bool false, .int .i64 lf, .int .i64 st, .int .i64 en] 30)).alloc (.cells #[.int .i64 0, .int .i64 0, .int .i64 0, .int .i64 0, .bool false, .int .i64 0, .int .i64 0, .int .i64 0] 30)).cell? ⟨w.heap.size, 2, none⟩ = some (.int .i64 xq) := by simp
  have f0_2 : ((w.alloc (.cells #[.int .i64 nq, .int .i64 np, .int .i64 xq, .int .i64 xp, .bool false, .int .i64 lf, .int .i64 st, .int .i64 en] 30)).alloc (.cells #[.int .i64 0, .int .i64 0, .int .i64 0, .int .i64 0, .bool false, .int .i64 0, .int .i64 0, .int .i64 0] 30)).frozen? ⟨w.heap.size, 2, none⟩ = false := by simp only [frozen?_alloc_cells]; exact frozen_beyond _ _ _ (by omega)
  have k0_3 : ((w.alloc (.cells #[.int .i64 nq, .int .i64 np, .int .i64 xq, .int .i64 xp, .bool false, .int .i64 lf, .int .i64 st, .int .i64 en] 30)).alloc (.cells #[.int .i64 0, .int .i64 0, .int .i64 0, .int .i64 0, .bool false, .int .i64 0, .int .i64 0, .int .i64 0] 30)).cell? ⟨w.heap.size, 3, none⟩ = some (.int .i64 xp) := by simp
  have f0_3 : ((w.alloc (.cells #[.int .i64 nq, .int .i64 np, .int .i64 xq, .int .i64 xp, .bool false, .int .i64 lf, .int .i64 st, .int .i64 en] 30)).alloc (.cells #[.int .i64 0, .int .i64 0, .int .i64 0, .int .i64 0, .bool false, .int .i64 0, .int .i64 0, .int .i64 0] 30)).frozen? ⟨w.heap.size, 3, none⟩ = false := by simp only [frozen?_alloc_cells]; exact frozen_beyond _ _ _ (by omega)
  have k0_4 : ((w.alloc (.cells #[.int .i64 nq, .int .i64 np, .int .i64 xq, .int .i64 xp, .bool false, .int .i64 lf, .int .i64 st, .int .i64 en] 30)).alloc (.cells #[.int .i64 0, .int .i64 0, .int .i64 0, .int .i64 0, .bool false, .int .i64 0, .int .i64 0, .int .i64 0] 30)).cell? ⟨w.heap.size, 4, none⟩ = some (.bool false) := by simp
  have f0_4 : ((w.alloc (.cells #[.int .i64 nq, .int .i64 np, .int .i64 xq, .int .i64 xp, .bool false, .int .i64 lf, .int .i64 st, .int .i64 en] 30)).alloc (.cells #[.int .i64 0, .int .i64 0, .int .i64 0, .int .i64 0, .bool false, .int .i64 0, .int .i64 0, .int .i64 0] 30)).frozen? ⟨w.heap.size, 4, none⟩ = false := by simp only [frozen?_alloc_cells]; exact frozen_beyond _ _ _ (by omega)
  have k0_5 : ((w.alloc (.cells #[.int .i64 nq, .int .i64 np, .int .i64 xq, .int .i64 xp, .bool false, .int .i64 lf, .int .i64 st, .int .i64 en] 30)).alloc (.cells #[.int .i64 0, .int .i64 0, .int .i64 0, .int .i64 0, .bool false, .int .i64 0, .int .i64 0, .int .i64 0] 30)).cell? ⟨w.heap.size, 5, none⟩ = some (.int .i64 lf) := by simp
  have f0_5 : ((w.alloc (.cells #[.int .i64 nq, .int .i64 np, .int .i64 xq, .int .i64 xp, .bool false, .int .i64 lf, .int .i64 st, .int .i64 en] 30)).alloc (.cells #[.int .i64 0, .int .i64 0, .int .i64 0, .int .i64 0, .bool false, .int .i64 0, .int .i64 0, .int .i64 0] 30)).frozen? ⟨w.heap.size, 5, none⟩ = false := by simp only [frozen?_alloc_cells]; exact frozen_beyond _ _ _ (by omega)
  have k0_6 : ((w.alloc (.cells #[.int .i64 nq, .int .i64 np, .int .i64 xq, .int .i64 xp, .bool false, .int .i64 lf, .int .i64 st, .int .i64 en] 30)).alloc (.cells #[.int .i64 0, .int .i64 0, .int .i64 0, .int .i64 0, .bool false, .int .i64 0, .int .i64 0, .int .i64 0] 30)).cell? ⟨w.heap.size, 6, none⟩ = some (.int .i64 st) := by simp
  have f0_6 : ((w.alloc (.cells #[.int .i64 nq, .int .i64 np, .int .i64 xq, .int .i64 xp, .bool false, .int .i64 lf, .int .i64 st, .int .i64 en] 30)).alloc (.cells #[.int .i64 0, .int .i64 0, .int .i64 0, .int .i64 0, .bool false, .int .i64 0, .int .i64 0, .int .i64 0] 30)).frozen? ⟨w.heap.size, 6, none⟩ = false := by simp only [frozen?_alloc_cells]; exact frozen_beyond _ _ _ (by omega)
  have k0_7 : ((w.alloc (.cells #[.int .i64 nq, .int .i64 np, .int .i64 xq, .int .i64 xp, .bool false, .int .i64 lf, .int .i64 st, .int .i64 en] 30)).alloc (.cells #[.int .i64 0, .int .i64 0, .int .i64 0, .int .i64 0, .bool false, .int .i64 0, .int .i64 0, .int .i64 0] 30)).cell? ⟨w.heap.size, 7, none⟩ = some (.int .i64 en) := by simp
  have f0_7 : ((w.alloc (.cells #[.int .i64 nq, .int .i64 np, .int .i64 xq, .int .i64 xp, .bool false, .int .i64 lf, .int .i64 st, .int .i64 en] 30)).alloc (.cells #[.int .i64 0, .int .i64 0, .int .i64 0, .int .i64 0, .bool false, .int .i64 0, .int .i64 0, .int .i64 0] 30)).frozen? ⟨w.heap.size, 7, none⟩ = false := by simp only [frozen?_alloc_cells]; exact frozen_beyond _ _ _ (by omega)
  have k1_0 : ((w.alloc (.cells #[.int .i64 nq, .int .i64 np, .int .i64 xq, .int .i64 xp, .bool false, .int .i64 lf, .int .i64 st, .int .i64 en] 30)).alloc (.cells #[.int .i64 0, .int .i64 0, .int .i64 0, .int .i64 0, .bool false, .int .i64 0, .int .i64 0, .int .i64 0] 30)).cell? ⟨w.heap.size + 1, 0, none⟩ = some (.int .i64 0) := by simp
  have f1_0 : ((w.alloc (.cells #[.int .i64 nq, .int .i64 np, .int .i64 xq, .int .i64 xp, .bool false, .int .i64 lf, .int .i64 st, .int .i64 en] 30)).alloc (.cells #[.int .i64 0, .int .i64 0, .int .i64 0, .int .i64 0, .bool false, .int .i64 0, .int .i64 0, .int .i64 0] 30)).frozen? ⟨w.heap.size + 1, 0, none⟩ = false := by simp only [frozen?_alloc_cells]; exact frozen_beyond _ _ _ (by omega)
  have k1_1 : ((w.alloc (.cells #[.int .i64 nq, .int .i64 np, .int .i64 xq, .int .i64 xp, .bool false, .int .i64 lf, .int .i64 st, .int .i64 en] 30)).alloc (.cells #[.int .i64 0, .int .i64 0, .int .i64 0, .int .i64 0, .bool false, .int .i64 0, .int .i64 0, .int .i64 0] 30)).cell? ⟨w.heap.size + 1, 1, none⟩ = some (.int .i64 0) := by simp
  have f1_1 : ((w.alloc (.cells #[.int .i64 nq, .int .i64 np, .int .i64 xq, .int .i64 xp, .bool false, .int .i64 lf, .int .i64 st, .int .i64 en] 30)).alloc (.cells #[.int .i64 0, .int .i64 0, .int .i64 0, .int .i64 0, .bool false, .int .i64 0, .int .i64 0, .int .i64 0] 30)).frozen? ⟨w.heap.size + 1, 1, none⟩ = false := by simp only [frozen?_alloc_cells]; exact frozen_beyond _ _ _ (by omega)
  have k1_2 : ((w.alloc (.cells #[.int .i64 nq, .int .i64 np, .int .i64 xq, .int .i64 xp, .bool false, .int .i64 lf, .int .i64 st, .int .i64 en] 30)).alloc (.cells #[.int .i64 0, .int .i64 0, .int .i64 0, .int .i64 0, .bool false, .int .i64 0, .int .i64 0, .int .i64 0] 30)).cell? ⟨w.heap.size + 1, 2, none⟩ = some (.int .i64 0) := by simp
  have f1_2 : ((w.alloc (.cells #[.int .i64 nq, .int .i64 np, .int .i64 xq, .int .i64 xp, .bool false, .int .i64 lf, .int .i64 st, .int .i64 en] 30)).alloc (.cells #[.int .i64 0, .int .i64 0, .int .i64 0, .int .i64 0, .bool false, .int .i64 0, .int .i64 0, .int .i64 0] 30)).frozen? ⟨w.heap.size + 1, 2, none⟩ = false := by simp only [frozen?_alloc_cells]; exact frozen_beyond _ _ _ (by omega)
  have k1_3 : ((w.alloc (.cells #[.int .i64 nq, .int .i64 np, .int .i64 xq, .int .i64 xp, .bool false, .int .i64 lf, .int .i64 st, .int .i64 en] 30)).alloc (.cells #[.int .i64 0, .int .i64 0, .int .i64 0, .int .i64 0, .bool false, .int .i64 0, .int .i64 0, .int .i64 0] 30)).cell? ⟨w.heap.size + 1, 3, none⟩ = some (.int .i64 0) := by simp
  have f1_3 : ((w.alloc (.cells #[.int .i64 nq, .int .i64 np, .int .i64 xq, .int .i64 xp, .bool false, .int .i64 lf, .int .i64 st, .int .i64 en] 30)).alloc (.cells #[.int .i64 0, .int .i64 0, .int .i64 0, .int .i64 0, .bool false, .int .i64 0, .int .i64 0, .int .i64 0] 30)).frozen? ⟨w.heap.size + 1, 3, none⟩ = false := by simp only [frozen?_alloc_cells]; exact frozen_beyond _ _ _ (by omega)
  have k1_4 : ((w.alloc (.cells #[.int .i64 nq, .int .i64 np, .int .i64 xq, .int .i64 xp, .bool false, .int .i64 lf, .int .i64 st, .int .i64 en] 30)).alloc (.cells #[.int .i64 0, .int .i64 0, .int .i64 0, .int .i64 0, .bool false, .int .i64 0, .int .i64 0, .int .i64 0] 30)).cell? ⟨w.heap.size + 1, 4, none⟩ = some (.bool false) := by simp
  have f1_4 : ((w.alloc (.cells #[.int .i64 nq, .int .i64 np, .int .i64 xq, .int .i64 xp, .bool false, .int .i64 lf, .int .i64 st, .int .i64 en] 30)).alloc (.cells #[.int .i64 0, .int .i64 0, .int .i64 0, .int .i64 0, .bool false, .int .i64 0, .int .i64 0, .int .i64 0] 30)).frozen? ⟨w.heap.size + 1, 4, none⟩ = false := by simp only [frozen?_alloc_cells]; exact frozen_beyond _ _ _ (by omega)
  have k1_5 : ((w.alloc (.cells #[.int .i64 nq, .int .i64 np, .int .i64 xq, .int .i64 xp, .bool false, .int .i64 lf, .int .i64 st, .int .i64 en] 30)).alloc (.cells #[.int .i64 0, .int .i64 0, .int .i64 0, .int .i64 0, .bool false, .int .i64 0, .int .i64 0, .int .i64 0] 30)).cell? ⟨w.heap.size + 1, 5, none⟩ = some (.int .i64 0) := by simp
  have f1_5 : ((w.alloc (.cells #[.int .i64 nq, .int .i64 np, .int .i64 xq, .int .i64 xp, .bool false, .int .i64 lf, .int .i64 st, .int .i64 en] 30)).alloc (.cells #[.int .i64 0, .int .i64 0, .int .i64 0, .int .i64 0, .bool false, .int .i64 0, .int .i64 0, .int .i64 0] 30)).frozen? ⟨w.heap.size + 1, 5, none⟩ = false := by simp only [frozen?_alloc_cells]; exact frozen_beyond _ _ _ (by omega)
  have k1_6 : ((w.alloc (.cells #[.int .i64 nq, .int .i64 np, .int .i64 xq, .int .i64 xp, .bool false, .int .i64 lf, .int .i64 st, .int .i64 en] 30)).alloc (.cells #[.int .i64 0, .int .i64 0, .int .i64 0, .int .i64 0, .bool false, .int .i64 0, .int .i64 0, .int .i64 0] 30)).cell? ⟨w.heap.size + 1, 6, none⟩ = some (.int .i64 0) := by simp
  have f1_6 : ((w.alloc (.cells #[.int .i64 nq, .int .i64 np, .int .i64 xq, .int .i64 xp, .bool false, .int .i64 lf, .int .i64 st, .int .i64 en] 30)).alloc (.cells #[.int .i64 0, .int .i64 0, .int .i64 0, .int .i64 0, .bool false, .int .i64 0, .int .i64 0, .int .i64 0] 30)).frozen? ⟨w.heap.size + 1, 6, none⟩ = false := by simp only [frozen?_alloc_cells]; exact frozen_beyond _ _ _ (by omega)
  have k1_7 : ((w.alloc (.cells #[.int .i64 nq, .int .i64 np, .int .i64 xq, .int .i64 xp, .bool false, .int .i64 lf, .int .i64 st, .int .i64 en] 30)).alloc (.cells #[.int .i64 0, .int .i64 0, .int .i64 0, .int .i64 0, .bool false, .int .i64 0, .int .i64 0, .int .i64 0] 30)).cell? ⟨w.heap.size + 1, 7, none⟩ = some (.int .i64 0) := by simp
  have f1_7 : ((w.alloc (.cells #[.int .i64 nq, .int .i64 np, .int .i64 xq, .int .i64 xp, .bool false, .int .i64 lf, .int .i64 st, .int .i64 en] 30)).alloc (.cells #[.int .i64 0, .int .i64 0, .int .i64 0, .int .i64 0, .bool false, .int .i64 0, .int .i64 0, .int .i64 0] 30)).frozen? ⟨w.heap.size + 1, 7, none⟩ = false := by simp only [frozen?_alloc_cells]; exact frozen_beyond _ _ _ (by omega)
  have z_ : w.heap.size + 1 < ((w.alloc (.cells #[.int .i64 nq, .int .i64 np, .int .i64 xq, .int .i64 xp, .bool false, .int .i64 lf, .int .i64 st, .int .i64 en] 30)).alloc (.cells #[.int .i64 0, .int .i64 0, .int .i64 0, .int .i64 0, .bool false, .int .i64 0, .int .i64 0, .int .i64 0] 30)).heap.size := by simp
  go_enter Tryd.func27, Tryd.ntmps27
  go_wp2_with fail
  refine (rbvalid_ok nq np xq xp false lf st en _ h).mono ?_
  rintro e w1 ⟨rfl, hb1⟩
  replace k0_0 := keep hb1 k0_0
  replace k0_1 := keep hb1 k0_1
  replace k0_2 := keep hb1 k0_2
  replace k0_3 := keep hb1 k0_3
  replace k0_4 := keep hb1 k0_4
  replace k0_5 := keep hb1 k0_5
  replace k0_6 := keep hb1 k0_6
  replace k0_7 := keep hb1 k0_7
  replace k1_0 := keep hb1 k1_0
  replace k1_1 := keep hb1 k1_1
  replace k1_2 := keep hb1 k1_2
  replace k1_3 := keep hb1 k1_3
  replace k1_4 := keep hb1 k1_4
  replace k1_5 := keep hb1 k1_5
  replace k1_6 := keep hb1 k1_6
  replace k1_7 := keep hb1 k1_7
  replace f0_0 := keepf hb1 (by omega) f0_0
  replace f0_1 := keepf hb1 (by omega) f0_1
  replace f0_2 := keepf hb1 (by omega) f0_2
  replace f0_3 := keepf hb1 (by omega) f0_3
  replace f0_4 := keepf hb1 (by omega) f0_4
  replace f0_5 := keepf hb1 (by omega) f0_5
  replace f0_6 := keepf hb1 (by omega) f0_6
  replace f0_7 := keepf hb1 (by omega) f0_7
  replace f1_0 := keepf hb1 (by omega) f1_0
  replace f1_1 := keepf hb1 (by omega) f1_1
  replace f1_2 := keepf hb1 (by omega) f1_2
  replace f1_3 := keepf hb1 (by omega) f1_3
  replace f1_4 := keepf hb1 (by omega) f1_4
  replace f1_5 := keepf hb1 (by omega) f1_5
  replace f1_6 := keepf hb1 (by omega) f1_6
  replace f1_7 := keepf hb1 (by omega) f1_7
  replace z_ := Nat.lt_of_lt_of_le z_ hb1.size
  replace HB := below_call HB (Nat.le_refl _) hb1
  clear hb1
  clear h
  go_wp2
  refine bodyPost_ret (v := .tuple #[bud nq np xq xp true lf st en, .int .i64 0]) (by simp [results, Tryd.results27, go_sem, k1_0, k1_1, k1_2, k1_3, k1_4, k1_5, k1_6, k1_7]) rfl ⟨rfl, ?_⟩
  repeat (first | (with_reducible exact HB) | (with_reducible refine below_drewN' ?_ _) | (with_reducible refine Below.drew ?_) | (with_reducible refine Below.setCell ?_ (by simp <;> omega) _))

set_option maxHeartbeats 2000000 in
set_option maxRecDepth 100000 in
theorem rdel_dying (nq np xq xp : Int) (lf st en : Int) (w : World) (h : BV nq np xq xp lf st en) :
    Calls Tryd.prog 27 #[bud nq np xq xp true lf st en] w fun e w' => e = .returned (.tuple #[budZ, .int .i64 92]) ∧ Below w.heap.size w w' := by
  have HB : Below w.heap.size w ((w.alloc (.cells #[.int .i64 nq, .int .i64 np, .int .i64 xq, .int .i64 xp, .bool true, .int .i64 lf, .int .i64 st, .int .i64 en] 30)).alloc (.cells #[.int .i64 0, .int .i64 0, .int .i64 0, .int .i64 0, .bool false, .int .i64 0, .int .i64 0, .int .i64 0] 30)) := (((Below.refl _ w).alloc (by simp) _).alloc (by simp) _)
  have k0_0 : ((w.alloc (.cells #[.int .i64 nq, .int .i64 np, .int .i64 xq, .int .i64 xp, .bool true, .int .i64 lf, .int .i64 st, .int .i64 en] 30)).alloc (.cells #[.int .i64 0, .int .i64 0, .int .i64 0, .int .i64 0, .bool false, .int .i64 0, .int .i64 0, .int .i64 0] 30)).cell? ⟨w.heap.size, 0, none⟩ = some (.int .i64 nq) := by simp
  have f0_0 : ((w.alloc (.cells #[.int .i64 nq, .int .i64 np, .int .i64 xq, .int .i64 xp, .bool true, .int .i64 lf, .int .i64 st, .int .i64 en] 30)).alloc (.cells #[.int .i64 0, .int .i64 0, .int .i64 0, .int .i64 0, .bool false, .int .i64 0, .int .i64 0, .int .i64 0] 30)).frozen? ⟨w.heap.size, 0, none⟩ = false := by simp only [frozen?_alloc_cells]; exact frozen_beyond _ _ _ (by omega)
  have k0_1 : ((w.alloc (.cells #[.int .i64 nq, .int .i64 np, .int .i64 xq, .int .i64 xp, .bool true, .int .i64 lf, .int .i64 st, .int .i64 en] 30)).alloc (.cells #[.int .i64 0, .int .i64 0, .int .i64 0, .int .i64 0, .bool false, .int .i64 0, .int .i64 0, .int .i64 0] 30)).cell? ⟨w.heap.size, 1, none⟩ = some (.int .i64 np) := by simp
  have f0_1 : ((w.alloc (.cells #[.int .i64 nq, .int .i64 np, .int .i64 xq, .int .i64 xp, .bool true, .int .i64 lf, .int .i64 st, .int .i64 en] 30)).alloc (.cells #[.int .i64 0, .int .i64 0, .int .i64 0, .int .i64 0, .bool false, .int .i64 0, .int .i64 0, .int .i64 0] 30)).frozen? ⟨w.heap.size, 1, none⟩ = false := by simp only [frozen?_alloc_cells]; exact frozen_beyond _ _ _ (by omega)
  have k0_2 : ((w.alloc (.cells #[.int .i64 nq, .int .i64 np, .int .i64 xq, .int .i64 xp, .bool true, .int .i64 lf, .int .i64 st, .int .i64 en] 30)).alloc (.cells #[.int .i64 0, .int .i64 0, .int .i64 0, .int .i64 0, .bool false, .int .i64 0, .int .i64 0, .int .i64 0] 30)).cell? ⟨w.heap.size, 2, none⟩ = some (.int .i64 xq) := by simp
  have f0_2 : ((w.alloc (.cells #[.int .i64 nq, .int .i64 np, .int .i64 xq, .int .i64 xp, .bool true, .int .i64 lf, .int .i64 st, .int .i64 en] 30)).alloc (.cells #[.int .i64 0, .int .i64 0, .int .i64 0, .int .i64 0, .bool false, .int .i64 0, .int .i64 0, .int .i64 0] 30)).frozen? ⟨w.heap.size, 2, none⟩ = false := by simp only [frozen?_alloc_cells]; exact frozen_beyond _ _ _ (by omega)
  have k0_3 : ((w.alloc (.cells #[.int .i64 nq, .int .i64 np, .int .i64 xq, .int .i64 xp, .bool true, .int .i64 lf, .int .i64 st, .int .i64 en] 30)).alloc (.cells #[.int .i64 0, .int .i64 0, .int .i64 0, .int .i64 0, .bool false, .int .i64 0, .int .i64 0, .int .i64 0] 30)).cell? ⟨w.heap.size, 3, none⟩ = some (.int .i64 xp) := by simp
  have f0_3 : ((w.alloc (.cells #[.int .i64 nq, .int .i64 np, .int .i64 xq, .int .i64 xp, .bool true, .int .i64 lf, .int .i64 st, .int .i64 en] 30)).alloc (.cells #[.int .i64 0, .int .i64 0, .int .i64 0, .int .i64 0, .bool false, .int .i64 0, .int .i64 0, .int .i64 0] 30)).frozen? ⟨w.heap.size, 3, none⟩ = false := by simp only [frozen?_alloc_cells]; exact frozen_beyond _ _ _ (by omega)
  have k0_4 : ((w.alloc (.cells #[.int .i64 nq, .int .i64 np, .int .i64 xq, .int .i64 xp, .bool true, .int .i64 lf, .int .i64 st, .int .i64 en] 30)).alloc (.cells #[.int .i64 0, .int .i64 0, .int .i64 0, .int .i64 0, .bool false, .int .i64 0, .int .i64 0, .int .i64 0] 30)).cell? ⟨w.heap.size, 4, none⟩ = some (.bool true) := by simp
  have f0_4 : ((w.alloc (.cells #[.int .i64 nq, .int .i64 np, .int .i64 xq, .int .i64 xp, .bool true, .int .i64 lf, .int .i64 st, .int .i64 en] 30)).alloc (.cells #[.int .i64 0, .int .i64 0, .int .i64 0, .int .i64 0, .bool false, .int .i64 0, .int .i64 0, .int .i64 0] 30)).frozen? ⟨w.heap.size, 4, none⟩ = false := by simp only [frozen?_alloc_cells]; exact frozen_beyond _ _ _ (by omega)
  have k0_5 : ((w.alloc (.cells #[.int .i64 nq, .int .i64 np, .int .i64 xq, .int .i64 xp, .bool true, .int .i64 lf, .int .i64 st, .int .i64 en] 30)).alloc (.cells #[.int .i64 0, .int .i64 0, .int .i64 0, .int .i64 0, .bool false, .int .i64 0, .int .i64 0, .int .i64 0] 30)).cell? ⟨w.heap.size, 5, none⟩ = some (.int .i64 lf) := by simp
  have f0_5 : ((w.alloc (.cells #[.int .i64 nq, .int .i64 np, .int .i64 xq, .int .i64 xp, .bool true, .int .i64 lf, .int .i64 st, .int .i64 en] 30)).alloc (.cells #[.int .i64 0, .int .i64 0, .int .i64 0, .int .i64 0, .bool false, .int .i64 0, .int .i64 0, .int .i64 0] 30)).frozen? ⟨w.heap.size, 5, none⟩ = false := by simp only [frozen?_alloc_cells]; exact frozen_beyond _ _ _ (by omega)
  have k0_6 : ((w.alloc (.cells #[.int .i64 nq, .int .i64 np, .int .i64 xq, .int .i64 xp, .bool true, .int .i64 lf, .int .i64 st, .int .i64 en] 30)).alloc (.cells #[.int .i64 0, .int .i64 0, .int .i64 0, .int .i64 0, .bool false, .int .i64 0, .int .i64 0, .int .i64 0] 30)).cell? ⟨w.heap.size, 6, none⟩ = some (.int .i64 st) := by simp
  have f0_6 : ((w.alloc (.cells #[.int .i64 nq, .int .i64 np, .int .i64 xq, .int .i64 xp, .bool true, .int .i64 lf, .int .i64 st, .int .i64 en] 30)).alloc (.cells #[.int .i64 0, .int .i64 0, .int .i64 0, .int .i64 0, .bool false, .int .i64 0, .int .i64 0, .int .i64 0] 30)).frozen? ⟨w.heap.size, 6, none⟩ = false := by simp only [frozen?_alloc_cells]; exact frozen_beyond _ _ _ (by omega)
  have k0_7 : ((w.alloc (.cells #[.int .i64 nq, .int .i64 np, .int .i64 xq, .int .i64 xp, .bool true, .int .i64 lf, .int .i64 st, .int .i64 en] 30)).alloc (.cells #[.int .i64 0, .int .i64 0, .int .i64 0, .int .i64 0, .bool false, .int .i64 0, .int .i64 0, .int .i64 0] 30)).cell? ⟨w.heap.size, 7, none⟩ = some (.int .i64 en) := by simp
  have f0_7 : ((w.alloc (.cells #[.int .i64 nq, .int .i64 np, .int .i64 xq, .int .i64 xp, .bool true, .int .i64 lf, .int .i64 st, .int .i64 en] 30)).alloc (.cells #[.int .i64 0, .int .i64 0, .int .i64 0, .int .i64 0, .bool false, .int .i64 0, .int .i64 0, .int .i64 0] 30)).frozen? ⟨w.heap.size, 7, none⟩ = false := by simp only [frozen?_alloc_cells]; exact frozen_beyond _ _ _ (by omega)
  have k1_0 : ((w.alloc (.cells #[.int .i64 nq, .int .i64 np, .int .i64 xq, .int .i64 xp, .bool true, .int .i64 lf, .int .i64 st, .int .i64 en] 30)).alloc (.cells #[.int .i64 0, .int .i64 0, .int .i64 0, .int .i64 0, .bool false, .int .i64 0, .int .i64 0, .int .i64 0] 30)).cell? ⟨w.heap.size + 1, 0, none⟩ = some (.int .i64 0) := by simp
  have f1_0 : ((w.alloc (.cells #[.int .i64 nq, .int .i64 np, .int .i64 xq, .int .i64 xp, .bool true, .int .i64 lf, .int .i64 st, .int .i64 en] 30)).alloc (.cells #[.int .i64 0, .int .i64 0, .int .i64 0, .int .i64 0, .bool false, .int .i64 0, .int .i64 0, .int .i64 0] 30)).frozen? ⟨w.heap.size + 1, 0, none⟩ = false := by simp only [frozen?_alloc_cells]; exact frozen_beyond _ _ _ (by omega)
  have k1_1 : ((w.alloc (.cells #[.int .i64 nq, .int .i64 np, .int .i64 xq, .int .i64 xp, .bool true, .int .i64 lf, .int .i64 st, .int .i64 en] 30)).alloc (.cells #[.int .i64 0, .int .i64 0, .int .i64 0, .int .i64 0, .bool false, .int .i64 0, .int .i64 0, .int .i64 0] 30)).cell? ⟨w.heap.size + 1, 1, none⟩ = some (.int .i64 0) := by simp
  have f1_1 : ((w.alloc (.cells #[.int .i64 nq, .int .i64 np, .int .i64 xq, .int .i64 xp, .bool true, .int .i64 lf, .int .i64 st, .int .i64 en] 30)).alloc (.cells #[.int .i64 0, .int .i64 0, .int .i64 0, .int .i64 0, .bool false, .int .i64 0, .int .i64 0, .int .i64 0] 30)).frozen? ⟨w.heap.size + 1, 1, none⟩ = false := by simp only [frozen?_alloc_cells]; exact frozen_beyond _ _ _ (by omega)
  have k1_2 : ((w.alloc (.cells #[.int .i64 nq, .int .i64 np, .int .i64 xq, .int .i64 xp, .bool true, .int .i64 lf, .int .i64 st, .int .i64 en] 30)).alloc (.cells #[.int .i64 0, .int .i64 0, .int .i64 0, .int .i64 0, .bool false, .int .i64 0, .int .i64 0, .int .i64 0] 30)).cell? ⟨w.heap.size + 1, 2, none⟩ = some (.int .i64 0) := by simp
  have f1_2 : ((w.alloc (.cells #[.int .i64 nq, .int .i64 np, .int .i64 xq, .int .i64 xp, .bool true, .int .i64 lf, .int .i64 st, .int .i64 en] 30)).alloc (.cells #[.int .i64 0, .int .i64 0, .int .i64 0, .int .i64 0, .bool false, .int .i64 0, .int .i64 0, .int .i64 0] 30)).frozen? ⟨w.heap.size + 1, 2, none⟩ = false := by simp only [frozen?_alloc_cells]; exact frozen_beyond _ _ _ (by omega)
  have k1_3 : ((w.alloc (.cells #[.int .i64 nq, .int .i64 np, .int .i64 xq, .int .i64 xp, .bool true, .int .i64 lf, .int .i64 st, .int .i64 en] 30)).alloc (.cells #[.int .i64 0, .int .i64 0, .int .i64 0, .int .i64 0, .bool false, .int .i64 0, .int .i64 0, .int .i64 0] 30)).cell? ⟨w.heap.size + 1, 3, none⟩ = some (.int .i64 0) := by simp
  have f1_3 : ((w.alloc (.cells #[.int .i64 nq, .int .i64 np, .int .i64 xq, .int .i64 xp, .bool true, .int .i64 lf, .int .i64 st, .int .i64 en] 30)).alloc (.cells #[.int .i64 0, .int .i64 0, .int .i64 0, .int .i64 0, .bool false, .int .i64 0, .int .i64 0, .int .i64 0] 30)).frozen? ⟨w.heap.size + 1, 3, none⟩ = false := by simp only [frozen?_alloc_cells]; exact frozen_beyond _ _ _ (by omega)
  have k1_4 : ((w.alloc (.cells #[.int .i64 nq, .int .i64 np, .int .i64 xq, .int .i64 xp, .bool true, .int .i64 lf, .int .i64 st, .int .i64 en] 30)).alloc (.cells #[.int .i64 0, .int .i64 0, .int .i64 0, .int .i64 0, .bool false, .int .i64 0, .int .i64 0, .int .i64 0] 30)).cell? ⟨w.heap.size + 1, 4, none⟩ = some (.bool false) := by simp
  have f1_4 : ((w.alloc (.cells #[.int .i64 nq, .int .i64 np, .int .i64 xq, .int .i64 xp, .bool true, .int .i64 lf, .int .i64 st, .int .i64 en] 30)).alloc (.cells #[.int .i64 0, .int .i64 0, .int .i64 0, .int .i64 0, .bool false, .int .i64 0, .int .i64 0, .int .i64 0] 30)).frozen? ⟨w.heap.size + 1, 4, none⟩ = false := by simp only [frozen?_alloc_cells]; exact frozen_beyond _ _ _ (by omega)
  have k1_5 : ((w.alloc (.cells #[.int .i64 nq, .int .i64 np, .int .i64 xq, .int .i64 xp, .bool true, .int .i64 lf, .int .i64 st, .int .i64 en] 30)).alloc (.cells #[.int .i64 0, .int .i64 0, .int .i64 0, .int .i64 0, .bool false, .int .i64 0, .int .i64 0, .int .i64 0] 30)).cell? ⟨w.heap.size + 1, 5, none⟩ = some (.int .i64 0) := by simp
  have f1_5 : ((w.alloc (.cells #[.int .i64 nq, .int .i64 np, .int .i64 xq, .int .i64 xp, .bool true, .int .i64 lf, .int .i64 st, .int .i64 en] 30)).alloc (.cells #[.int .i64 0, .int .i64 0, .int .i64 0, .int .i64 0, .bool false, .int .i64 0, .int .i64 0, .int .i64 0] 30)).frozen? ⟨w.heap.size + 1, 5, none⟩ = false := by simp only [frozen?_alloc_cells]; exact frozen_beyond _ _ _ (by omega)
  have k1_6 : ((w.alloc (.cells #[.int .i64 nq, .int .i64 np, .int .i64 xq, .int .i64 xp, .bool true, .int .i64 lf, .int .i64 st, .int .i64 en] 30)).alloc (.cells #[.int .i64 0, .int .i64 0, .int .i64 0, .int .i64 0, .bool false, .int .i64 0, .int .i64 0, .int .i64 0] 30)).cell? ⟨w.heap.size + 1, 6, none⟩ = some (.int .i64 0) := by simp
  have f1_6 : ((w.alloc (.cells #[.int .i64 nq, .int .i64 np, .int .i64 xq, .int .i64 xp, .bool true, .int .i64 lf, .int .i64 st, .int .i64 en] 30)).alloc (.cells #[.int .i64 0, .int .i64 0, .int .i64 0, .int .i64 0, .bool false, .int .i64 0, .int .i64 0, .int .i64 0] 30)).frozen? ⟨w.heap.size + 1, 6, none⟩ = false := by simp only [frozen?_alloc_cells]; exact frozen_beyond _ _ _ (by omega)
  have k1_7 : ((w.alloc (.cells #[.int .i64 nq, .int .i64 np, .int .i64 xq, .int .i64 xp, .bool true, .int .i64 lf, .int .i64 st, .int .i64 en] 30)).alloc (.cells #[.int .i64 0, .int .i64 0, .int .i64 0, .int .i64 0, .bool false, .int .i64 0, .int .i64 0, .int .i64 0] 30)).cell? ⟨w.heap.size + 1, 7, none⟩ = some (.int .i64 0) := by simp
  have f1_7 : ((w.alloc (.cells #[.int .i64 nq, .int .i64 np, .int .i64 xq, .int .i64 xp, .bool true, .int .i64 lf, .int .i64 st, .int .i64 en] 30)).alloc (.cells #[.int .i64 0, .int .i64 0, .int .i64 0, .int .i64 0, .bool false, .int .i64 0, .int .i64 0, .int .i64 0] 30)).frozen? ⟨w.heap.size + 1, 7, none⟩ = false := by simp only [frozen?_alloc_cells]; exact frozen_beyond _ _ _ (by omega)
  have z_ : w.heap.size + 1 < ((w.alloc (.cells #[.int .i64 nq, .int .i64 np, .int .i64 xq, .int .i64 xp, .bool true, .int .i64 lf, .int .i64 st, .int .i64 en] 30)).alloc (.cells #[.int .i64 0, .int .i64 0, .int .i64 0, .int .i64 0, .bool false, .int .i64 0, .int .i64 0, .int .i64 0] 30)).heap.size := by simp
  go_enter Tryd.func27, Tryd.ntmps27
  go_wp2_with fail
  refine (rbvalid_ok nq np xq xp true lf st en _ h).mono ?_
  rintro e w1 ⟨rfl, hb1⟩
  replace k0_0 := keep hb1 k0_0
  replace k0_1 := keep hb1 k0_1
  replace k0_2 := keep hb1 k0_2
  replace k0_3 := keep hb1 k0_3
  replace k0_4 := keep hb1 k0_4
  replace k0_5 := keep hb1 k0_5
  replace k0_6 := keep hb1 k0_6
  replace k0_7 := keep hb1 k0_7
  replace k1_0 := keep hb1 k1_0
  replace k1_1 := keep hb1 k1_1
  replace k1_2 := keep hb1 k1_2
  replace k1_3 := keep hb1 k1_3
  replace k1_4 := keep hb1 k1_4
  replace k1_5 := keep hb1 k1_5
  replace k1_6 := keep hb1 k1_6
  replace k1_7 := keep hb1 k1_7
  replace f0_0 := keepf hb1 (by omega) f0_0
  replace f0_1 := keepf hb1 (by omega) f0_1
  replace f0_2 := keepf hb1 (by omega) f0_2
  replace f0_3 := keepf hb1 (by omega) f0_3
  replace f0_4 := keepf hb1 (by omega) f0_4
  replace f0_5 := keepf hb1 (by omega) f0_5
  replace f0_6 := keepf hb1 (by omega) f0_6
  replace f0_7 := keepf hb1 (by omega) f0_7
  replace f1_0 := keepf hb1 (by omega) f1_0
  replace f1_1 := keepf hb1 (by omega) f1_1
  replace f1_2 := keepf hb1 (by omega) f1_2
  replace f1_3 := keepf hb1 (by omega) f1_3
  replace f1_4 := keepf hb1 (by omega) f1_4
  replace f1_5 := keepf hb1 (by omega) f1_5
  replace f1_6 := keepf hb1 (by omega) f1_6
  replace f1_7 := keepf hb1 (by omega) f1_7
  replace z_ := Nat.lt_of_lt_of_le z_ hb1.size
  replace HB := below_call HB (Nat.le_refl _) hb1
  clear hb1
  clear h
  go_wp2
  refine bodyPost_ret (v := .tuple #[budZ, .int .i64 92]) (by simp [results, Tryd.results27, go_sem, k1_0, k1_1, k1_2, k1_3, k1_4, k1_5, k1_6, k1_7]) rfl ⟨rfl, ?_⟩
  repeat (first | (with_reducible exact HB) | (with_reducible refine below_drewN' ?_ _) | (with_reducible refine Below.drew ?_) | (with_reducible refine Below.setCell ?_ (by simp <;> omega) _))

set_option maxHeartbeats 2000000 in
set_option maxRecDepth 100000 in
theorem rdel_bad (nq np xq xp : Int) (dy : Bool) (lf st en : Int) (w : World) (h : ¬ BV nq np xq xp lf st en) :
    Calls Tryd.prog 27 #[bud nq np xq xp dy lf st en] w fun e w' => e = .returned (.tuple #[budZ, .int .i64 270]) ∧ Below w.heap.size w w' := by
  have HB : Below w.heap.size w ((w.alloc (.cells #[.int .i64 nq, .int .i64 np, .int .i64 xq, .int .i64 xp, .bool dy, .int .i64 lf, .int .i64 st, .int .i64 en] 30)).alloc (.cells #[.int .i64 0, .int .i64 0, .int .i64 0, .int .i64 0, .bool false, .int .i64 0, .int .i64 0, .int .i64 0] 30)) := (((Below.refl _ w).alloc (by simp) _).alloc (by simp) _)
  have k0_0 : ((w.alloc (.cells #[.int .i64 nq, .int .i64 np, .int .i64 xq, .int .i64 xp, .bool dy, .int .i64 lf, .int .i64 st, .int .i64 en] 30)).alloc (.cells #[.int .i64 0, .int .i64 0, .int .i64 0, .int .i64 0, .bool false, .int .i64 0, .int .i64 0, .int .i64 0] 30)).cell? ⟨w.heap.size, 0, none⟩ = some (.int .i64 nq) := by simp
  have f0_0 : ((w.alloc (.cells #[.int .i64 nq, .int .i64 np, .int .i64 xq, .int .i64 xp, .bool dy, .int .i64 lf, .int .i64 st, .int .i64 en] 30)).alloc (.cells #[.int .i64 0, .int .i64 0, .int .i64 0, .int .i64 0, .bool false, .int .i64 0, .int .i64 0, .int .i64 0] 30)).frozen? ⟨w.heap.size, 0, none⟩ = false := by simp only [frozen?_alloc_cells]; exact frozen_beyond _ _ _ (by omega)
  have k0_1 : ((w.alloc (.cells #[.int .i64 nq, .int .i64 np, .int .i64 xq, .int .i64 xp, .bool dy, .int .i64 lf, .int .i64 st, .int .i64 en] 30)).alloc (.cells #[.int .i64 0, .int .i64 0, .int .i64 0, .int .i64 0, .bool false, .int .i64 0, .int .i64 0, .int .i64 0] 30)).cell? ⟨w.heap.size, 1, none⟩ = some (.int .i64 np) := by simp
  have f0_1 : ((w.alloc (.cells #[.int .i64 nq, .int .i64 np, .int .i64 xq, .int .i64 xp, .bool dy, .int .i64 lf, .int .i64 st, .int .i64 en] 30)).alloc (.cells #[.int .i64 0, .int .i64 0, .int .i64 0, .int .i64 0, .bool false, .int .i64 0, .int .i64 0, .int .i64 0] 30)).frozen? ⟨w.heap.size, 1, none⟩ = false := by simp only [frozen?_alloc_cells]; exact frozen_beyond _ _ _ (by omega)
  have k0_2 : ((w.alloc (.cells #[.int .i64 nq, .int .i64 np, .int .i64 xq, .int .i64 xp, .bool dy, .int .i64 lf, .int .i64 st, .int .i64 en] 30)).alloc (.cells #[.int .i64 0, .int .i64 0, .int .i64 0, .int .i64 0, .bool false, .int .i64 0, .int .i64 0, .int .i64 0] 30)).cell? ⟨w.heap.size, 2, none⟩ = some (.int .i64 xq) := by simp
  have f0_2 : ((w.alloc (.cells #[.int .i64 nq, .int .i64 np, .int .i64 xq, .int .i64 xp, .bool dy, .int .i64 lf, .int .i64 st, .int .i64 en] 30)).alloc (.cells #[.int .i64 0, .int .i64 0, .int .i64 0, .int .i64 0, .bool false, .int .i64 0, .int .i64 0, .int .i64 0] 30)).frozen? ⟨w.heap.size, 2, none⟩ = false := by simp only [frozen?_alloc_cells]; exact frozen_beyond _ _ _ (by omega)
  have k0_3 : ((w.alloc (.cells #[.int .i64 nq, .int .i64 np, .int .i64 xq, .int .i64 xp, .bool dy, .int .i64 lf, .int .i64 st, .int .i64 en] 30)).alloc (.cells #[.int .i64 0, .int .i64 0, .int .i64 0, .int .i64 0, .bool false, .int .i64 0, .int .i64 0, .int .i64 0] 30)).cell? ⟨w.heap.size, 3, none⟩ = some (.int .i64 xp) := by simp
  have f0_3 : ((w.alloc (.cells #[.int .i64 nq, .int .i64 np, .int .i64 xq, .int .i64 xp, .bool dy, .int .i64 lf, .int .i64 st, .int .i64 en] 30)).alloc (.cells #[.int .i64 0, .int .i64 0, .int .i64 0, .int .i64 0, .bool false, .int .i64 0, .int .i64 0, .int .i64 0] 30)).frozen? ⟨w.heap.size, 3, none⟩ = false := by simp only [frozen?_alloc_cells]; exact frozen_beyond _ _ _ (by omega)
  have k0_4 : ((w.alloc (.cells #[.int .i64 nq, .int .i64 np, .int .i64 xq, .int .i64 xp, .bool dy, .int .i64 lf, .int .i64 st, .int .i64 en] 30)).alloc (.cells #[.int .i64 0, .int .i64 0, .int .i64 0, .int .i64 0, .bool false, .int .i64 0, .int .i64 0, .int .i64 0] 30)).cell? ⟨w.heap.size, 4, none⟩ = some (.bool dy) := by simp
  have f0_4 : ((w.alloc (.cells #[.int .i64 nq, .int .i64 np, .int .i64 xq, .int .i64 xp, .bool dy, .int .i64 lf, .int .i64 st, .int .i64 en] 30)).alloc (.cells #[.int .i64 0, .int .i64 0, .int .i64 0, .int .i64 0, .bool false, .int .i64 0, .int .i64 0, .int .i64 0] 30)).frozen? ⟨w.heap.size, 4, none⟩ = false := by simp only [frozen?_alloc_cells]; exact frozen_beyond _ _ _ (by omega)
  have k0_5 : ((w.alloc (.cells #[.int .i64 nq, .int .i64 np, .int .i64 xq, .int .i64 xp, .bool dy, .int .i64 lf, .int .i64 st, .int .i64 en] 30)).alloc (.cells #[.int .i64 0, .int .i64 0, .int .i64 0, .int .i64 0, .bool false, .int .i64 0, .int .i64 0, .int .i64 0] 30)).cell? ⟨w.heap.size, 5, none⟩ = some (.int .i64 lf) := by simp
  have f0_5 : ((w.alloc (.cells #[.int .i64 nq, .int .i64 np, .int .i64 xq, .int .i64 xp, .bool dy, .int .i64 lf, .int .i64 st, .int .i64 en] 30)).alloc (.cells #[.int .i64 0, .int .i64 0, .int .i64 0, .int .i64 0, .bool false, .int .i64 0, .int .i64 0, .int .i64 0] 30)).frozen? ⟨w.heap.size, 5, none⟩ = false := by simp only [frozen?_alloc_cells]; exact frozen_beyond _ _ _ (by omega)
  have k0_6 : ((w.alloc (.cells #[.int .i64 nq, .int .i64 np, .int .i64 xq, .int .i64 xp, .bool dy, .int .i64 lf, .int .i64 st, .int .i64 en] 30)).alloc (.cells #[.int .i64 0, .int .i64 0, .int .i64 0, .int .i64 0, .bool false, .int .i64 0, .int .i64 0, .int .i64 0] 30)).cell? ⟨w.heap.size, 6, none⟩ = some (.int .i64 st) := by simp
  have f0_6 : ((w.alloc (.cells #[.int .i64 nq, .int .i64 np, .int .i64 xq, .int .i64 xp, .bool dy, .int .i64 lf, .int .i64 st, .int .i64 en] 30)).alloc (.cells #[.int .i64 0, .int .i64 0, .int .i64 0, .int .i64 0, .bool false, .int .i64 0, .int .i64 0, .int .i64 0] 30)).frozen? ⟨w.heap.size, 6, none⟩ = false := by simp only [frozen?_alloc_cells]; exact frozen_beyond _ _ _ (by omega)
  have k0_7 : ((w.alloc (.cells #[.int .i64 nq, .int .i64 np, .int .i64 xq, .int .i64 xp, .bool dy, .int .i64 lf, .int .i64 st, .int .i64 en] 30)).alloc (.cells #[.int .i64 0, .int .i64 0, .int .i64 0, .int .i64 0, .bool false, .int .i64 0, .int .i64 0, .int .i64 0] 30)).cell? ⟨w.heap.size, 7, none⟩ = some (.int .i64 en) := by simp
  have f0_7 : ((w.alloc (.cells #[.int .i64 nq, .int .i64 np, .int .i64 xq, .int .i64 xp, .bool dy, .int .i64 lf, .int .i64 st, .int .i64 en] 30)).alloc (.cells #[.int .i64 0, .int .i64 0, .int .i64 0, .int .i64 0, .bool false, .int .i64 0, .int .i64 0, .int .i64 0] 30)).frozen? ⟨w.heap.size, 7, none⟩ = false := by simp only [frozen?_alloc_cells]; exact frozen_beyond _ _ _ (by omega)
  have k1_0 : ((w.alloc (.cells #[.int .i64 nq, .int .i64 np, .int .i64 xq, .int .i64 xp, .bool dy, .int .i64 lf, .int .i64 st, .int .i64 en] 30)).alloc (.cells #[.int .i64 0, .int .i64 0, .int .i64 0, .int .i64 0, .bool false, .int .i64 0, .int .i64 0, .int .i64 0] 30)).cell? ⟨w.heap.size + 1, 0, none⟩ = some (.int .i64 0) := by simp
  have f1_0 : ((w.alloc (.cells #[.int .i64 nq, .int .i64 np, .int .i64 xq, .int .i64 xp, .bool dy, .int .i64 lf, .int .i64 st, .int .i64 en] 30)).alloc (.cells #[.int .i64 0, .int .i64 0, .int .i64 0, .int .i64 0, .bool false, .int .i64 0, .int .i64 0, .int .i64 0] 30)).frozen? ⟨w.heap.size + 1, 0, none⟩ = false := by simp only [frozen?_alloc_cells]; exact frozen_beyond _ _ _ (by omega)
  have k1_1 : ((w.alloc (.cells #[.int .i64 nq, .int .i64 np, .int .i64 xq, .int .i64 xp, .bool dy, .int .i64 lf, .int .i64 st, .int .i64 en] 30)).alloc (.cells #[.int .i64 0, .int .i64 0, .int .i64 0, .int .i64 0, .bool false, .int .i64 0, .int .i64 0, .int .i64 0] 30)).cell? ⟨w.heap.size + 1, 1, none⟩ = some (.int .i64 0) := by simp
  have f1_1 : ((w.alloc (.cells #[.int .i64 nq, .int .i64 np, .int .i64 xq, .int .i64 xp, .bool dy, .int .i64 lf, .int .i64 st, .int .i64 en] 30)).alloc (.cells #[.int .i64 0, .int .i64 0, .int .i64 0, .int .i64 0, .bool false, .int .i64 0, .int .i64 0, .int .i64 0] 30)).frozen? ⟨w.heap.size + 1, 1, none⟩ = false := by simp only [frozen?_alloc_cells]; exact frozen_beyond _ _ _ (by omega)
  have k1_2 : ((w.alloc (.cells #[.int .i64 nq, .int .i64 np, .int .i64 xq, .int .i64 xp, .bool dy, .int .i64 lf, .int .i64 st, .int .i64 en] 30)).alloc (.cells #[.int .i64 0, .int .i64 0, .int .i64 0, .int .i64 0, .bool false, .int .i64 0, .int .i64 0, .int .i64 0] 30)).cell? ⟨w.heap.size + 1, 2, none⟩ = some (.int .i64 0) := by simp
  have f1_2 : ((w.alloc (.cells #[.int .i64 nq, .int .i64 np, .int .i64 xq, .int .i64 xp, .bool dy, .int .i64 lf, .int .i64 st, .int .i64 en] 30)).alloc (.cells #[.int .i64 0, .int .i64 0, .int .i64 0, .int .i64 0, .bool false, .int .i64 0, .int .i64 0, .int .i64 0] 30)).frozen? ⟨w.heap.size + 1, 2, none⟩ = false := by simp only [frozen?_alloc_cells]; exact frozen_beyond _ _ _ (by omega)
  have k1_3 : ((w.alloc (.cells #[.int .i64 nq, .int .i64 np, .int .i64 xq, .int .i64 xp, .bool dy, .int .i64 lf, .int .i64 st, .int .i64 en] 30)).alloc (.cells #[.int .i64 0, .int .i64 0, .int .i64 0, .int .i64 0, .bool false, .int .i64 0, .int .i64 0, .int .i64 0] 30)).cell? ⟨w.heap.size + 1, 3, none⟩ = some (.int .i64 0) := by simp
  have f1_3 : ((w.alloc (.cells #[.int .i64 nq, .int .i64 np, .int .i64 xq, .int .i64 xp, .bool dy, .int .i64 lf, .int .i64 st, .int .i64 en] 30)).alloc (.cells #[.int .i64 0, .int .i64 0, .int .i64 0, .int .i64 0, .bool false, .int .i64 0, .int .i64 0, .int .i64 0] 30)).frozen? ⟨w.heap.size + 1, 3, none⟩ = false := by simp only [frozen?_alloc_cells]; exact frozen_beyond _ _ _ (by omega)
  have k1_4 : ((w.alloc (.cells #[.int .i64 nq, .int .i64 np, .int .i64 xq, .int .i64 xp, .bool dy, .int .i64 lf, .int .i64 st, .int .i64 en] 30)).alloc (.cells #[.int .i64 0, .int .i64 0, .int .i64 0, .int .i64 0, .bool false, .int .i64 0, .int .i64 0, .int .i64 0] 30)).cell? ⟨w.heap.size + 1, 4, none⟩ = some (.bool false) := by simp
  have f1_4 : ((w.alloc (.cells #[.int .i64 nq, .int .i64 np, .int .i64 xq, .int .i64 xp, .bool dy, .int .i64 lf, .int .i64 st, .int .i64 en] 30)).alloc (.cells #[.int .i64 0, .int .i64 0, .int .i64 0, .int .i64 0, .bool false, .int .i64 0, .int .i64 0, .int .i64 0] 30)).frozen? ⟨w.heap.size + 1, 4, none⟩ = false := by simp only [frozen?_alloc_cells]; exact frozen_beyond _ _ _ (by omega)
  have k1_5 : ((w.alloc (.cells #[.int .i64 nq, .int .i64 np, .int .i64 xq, .int .i64 xp, .bool dy, .int .i64 lf, .int .i64 st, .int .i64 en] 30)).alloc (.cells #[.int .i64 0, .int .i64 0, .int .i64 0, .int .i64 0, .bool false, .int .i64 0, .int .i64 0, .int .i64 0] 30)).cell? ⟨w.heap.size + 1, 5, none⟩ = some (.int .i64 0) := by simp
  have f1_5 : ((w.alloc (.cells #[.int .i64 nq, .int .i64 np, .int .i64 xq, .int .i64 xp, .bool dy, .int .i64 lf, .int .i64 st, .int .i64 en] 30)).alloc (.cells #[.int .i64 0, .int .i64 0, .int .i64 0, .int .i64 0, .bool false, .int .i64 0, .int .i64 0, .int .i64 0] 30)).frozen? ⟨w.heap.size + 1, 5, none⟩ = false := by simp only [frozen?_alloc_cells]; exact frozen_beyond _ _ _ (by omega)
  have k1_6 : ((w.alloc (.cells #[.int .i64 nq, .int .i64 np, .int .i64 xq, .int .i64 xp, .bool dy, .int .i64 lf, .int .i64 st, .int .i64 en] 30)).alloc (.cells #[.int .i64 0, .int .i64 0, .int .i64 0, .int .i64 0, .bool false, .int .i64 0, .int .i64 0, .int .i64 0] 30)).cell? ⟨w.heap.size + 1, 6, none⟩ = some (.int .i64 0) := by simp
  have f1_6 : ((w.alloc (.cells #[.int .i64 nq, .int .i64 np, .int .i64 xq, .int .i64 xp, .bool dy, .int .i64 lf, .int .i64 st, .int .i64 en] 30)).alloc (.cells #[.int .i64 0, .int .i64 0, .int .i64 0, .int .i64 0, .bool false, .int .i64 0, .int .i64 0, .int .i64 0] 30)).frozen? ⟨w.heap.size + 1, 6, none⟩ = false := by simp only [frozen?_alloc_cells]; exact frozen_beyond _ _ _ (by omega)
  have k1_7 : ((w.alloc (.cells #[.int .i64 nq, .int .i64 np, .int .i64 xq, .int .i64 xp, .bool dy, .int .i64 lf, .int .i64 st, .int .i64 en] 30)).alloc (.cells #[.int .i64 0, .int .i64 0, .int .i64 0, .int .i64 0, .bool false, .int .i64 0, .int .i64 0, .int .i64 0] 30)).cell? ⟨w.heap.size + 1, 7, none⟩ = some (.int .i64 0) := by simp
  have f1_7 : ((w.alloc (.cells #[.int .i64 nq, .int .i64 np, .int .i64 xq, .int .i64 xp, .bool dy, .int .i64 lf, .int .i64 st, .int .i64 en] 30)).alloc (.cells #[.int .i64 0, .int .i64 0, .int .i64 0, .int .i64 0, .bool false, .int .i64 0, .int .i64 0, .int .i64 0] 30)).frozen? ⟨w.heap.size + 1, 7, none⟩ = false := by simp only [frozen?_alloc_cells]; exact frozen_beyond _ _ _ (by omega)
  have z_ : w.heap.size + 1 < ((w.alloc (.cells #[.int .i64 nq, .int .i64 np, .int .i64 xq, .int .i64 xp, .bool dy, .int .i64 lf, .int .i64 st, .int .i64 en] 30)).alloc (.cells #[.int .i64 0, .int .i64 0, .int .i64 0, .int .i64 0, .bool false, .int .i64 0, .int .i64 0, .int .i64 0] 30)).heap.size := by simp
  go_enter Tryd.func27, Tryd.ntmps27
  go_wp2_with fail
  refine (rbvalid_bad nq np xq xp dy lf st en _ h).mono ?_
  rintro e w1 ⟨rfl, hb1⟩
  replace k0_0 := keep hb1 k0_0
  replace k0_1 := keep hb1 k0_1
  replace k0_2 := keep hb1 k0_2
  replace k0_3 := keep hb1 k0_3
  replace k0_4 := keep hb1 k0_4
  replace k0_5 := keep hb1 k0_5
  replace k0_6 := keep hb1 k0_6
  replace k0_7 := keep hb1 k0_7
  replace k1_0 := keep hb1 k1_0
  replace k1_1 := keep hb1 k1_1
  replace k1_2 := keep hb1 k1_2
  replace k1_3 := keep hb1 k1_3
  replace k1_4 := keep hb1 k1_4
  replace k1_5 := keep hb1 k1_5
  replace k1_6 := keep hb1 k1_6
  replace k1_7 := keep hb1 k1_7
  replace f0_0 := keepf hb1 (by omega) f0_0
  replace f0_1 := keepf hb1 (by omega) f0_1
  replace f0_2 := keepf hb1 (by omega) f0_2
  replace f0_3 := keepf hb1 (by omega) f0_3
  replace f0_4 := keepf hb1 (by omega) f0_4
  replace f0_5 := keepf hb1 (by omega) f0_5
  replace f0_6 := keepf hb1 (by omega) f0_6
  replace f0_7 := keepf hb1 (by omega) f0_7
  replace f1_0 := keepf hb1 (by omega) f1_0
  replace f1_1 := keepf hb1 (by omega) f1_1
  replace f1_2 := keepf hb1 (by omega) f1_2
  replace f1_3 := keepf hb1 (by omega) f1_3
  replace f1_4 := keepf hb1 (by omega) f1_4
  replace f1_5 := keepf hb1 (by omega) f1_5
  replace f1_6 := keepf hb1 (by omega) f1_6
  replace f1_7 := keepf hb1 (by omega) f1_7
  replace z_ := Nat.lt_of_lt_of_le z_ hb1.size
  replace HB := below_call HB (Nat.le_refl _) hb1
  clear hb1
  clear h
  go_wp2
  refine bodyPost_ret (v := .tuple #[budZ, .int .i64 270]) (by simp [results, Tryd.results27, go_sem, k1_0, k1_1, k1_2, k1_3, k1_4, k1_5, k1_6, k1_7]) rfl ⟨rfl, ?_⟩
  repeat (first | (with_reducible exact HB) | (with_reducible refine below_drewN' ?_ _) | (with_reducible refine Below.drew ?_) | (with_reducible refine Below.setCell ?_ (by simp <;> omega) _))

theorem eqBud (d : Nat) (w : World) (a0 a1 a2 a3 : Int) (a4 : Bool) (a5 a6 a7 b0 b1 b2 b3 : Int) (b4 : Bool) (b5 b6 b7 : Int) :
    (Op.equalIn (d + 3) 30 (.agg #[.int .i64 a0, .int .i64 a1, .int .i64 a2, .int .i64 a3, .bool a4, .int .i64 a5, .int .i64 a6, .int .i64 a7]) (.agg #[.int .i64 b0, .int .i64 b1, .int .i64 b2, .int .i64 b3, .bool b4, .int .i64 b5, .int .i64 b6, .int .i64 b7])).run Tryd.prog w
      = .ok ((a0 == b0 && a1 == b1) && ((a2 == b2 && a3 == b3) && (a4 == b4 && (a5 == b5 && (a6 == b6 && a7 == b7))))) w := by
  refine ea_of Tryd.underlying30 (by kernel_rfl) ?_
  refine ef_cons (by rfl) (by go_simp) (by go_simp) (eqRes d w a0 a1 b0 b1) ?_
  refine ef_cons (by rfl) (by go_simp) (by go_simp) (eqRes d w a2 a3 b2 b3) ?_
  refine ef_cons (by rfl) (by go_simp; rfl) (by go_simp; rfl) (by go_simp) ?_
  refine ef_cons (by rfl) (by go_simp; rfl) (by go_simp; rfl) (by go_simp) ?_
  refine ef_cons (by rfl) (by go_simp; rfl) (by go_simp; rfl) (by go_simp) ?_
  exact ef_last (by rfl) (by go_simp; rfl) (by go_simp; rfl) (by go_simp)
attribute [local go_sem high] eqBud

set_option maxRecDepth 100000 in
theorem same_refl (nq np xq xp : Int) (dy : Bool) (lf st en : Int) (w : World) :
    Calls Tryd.prog 15 #[bud nq np xq xp dy lf st en, bud nq np xq xp dy lf st en] w fun e w' => e = .returned (.bool true) ∧ Below w.heap.size w w' := by
  go_enter Tryd.func15, Tryd.ntmps15
  go_wp2
  go_ret
  exact ⟨rfl, ((Below.refl _ w).alloc (by simp) _).alloc (by simp) _⟩

theorem bv_sure : BV 2 5 0 0 2 10 15 := ⟨by decide, Or.inl ⟨rfl, rfl⟩, by decide, by decide, by decide, by decide, by decide⟩

theorem take_sure (w : World) : Calls Tryd.prog 24 #[bud 2 5 0 0 false 2 10 15] w fun e w' => e = .returned (.tuple #[bud 2 5 0 0 false 1 10 15, .nilIface]) ∧ Below w.heap.size w w' := btake_ok 2 5 0 0 false 2 10 15 w bv_sure (by decide)

set_option maxHeartbeats 2000000 in
set_option maxRecDepth 100000 in
theorem sure07 (w : World) : Calls Tryd.prog 17 #[] w fun e w' => e = .returned (.bool true) ∧ Below w.heap.size w w' := by
  go_enter Tryd.func17, Tryd.ntmps17
  go_wp2_with fail
  refine (bnew_ok 2 5 10 _ (by decide) (by decide) (by decide)).mono ?_
  rintro e w1 ⟨rfl, hb1⟩
  go_wp2_with fail
  refine (take_sure _).mono ?_
  rintro e w2 ⟨rfl, hb2⟩
  have hz := hb2.size
  simp at hz
  have c5 : (w2.alloc (.cells #[.int .i64 2, .int .i64 5, .int .i64 0, .int .i64 0, .bool false, .int .i64 1, .int .i64 10, .int .i64 15] 25)).cell? ⟨w1.heap.size, 5, none⟩ = some (.int .i64 2) := by
    rw [World.cell?_alloc_lt _ _ _ (by simp; omega), hb2.cell (p := ⟨w1.heap.size, 5, none⟩) (by simp)]; simp
  have c7 : (w2.alloc (.cells #[.int .i64 2, .int .i64 5, .int .i64 0, .int .i64 0, .bool false, .int .i64 1, .int .i64 10, .int .i64 15] 25)).cell? ⟨w1.heap.size, 7, none⟩ = some (.int .i64 15) := by
    rw [World.cell?_alloc_lt _ _ _ (by simp; omega), hb2.cell (p := ⟨w1.heap.size, 7, none⟩) (by simp)]; simp
  have HB : Below w.heap.size w w2 := (hb1.alloc hb1.size _).trans (hb2.mono (by have := hb1.size; simp; omega))
  have hs1 := hb1.size
  clear hb1 hb2
  go_wp2
  go_ret
  exact ⟨rfl, HB.alloc (by omega) _⟩

end Go.Proofs.YtggcahcdhjnemaaDoor
