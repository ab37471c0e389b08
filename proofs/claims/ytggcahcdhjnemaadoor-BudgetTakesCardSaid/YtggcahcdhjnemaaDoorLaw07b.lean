/- The walk of BudgetTakes, a case of it: the call returns true. -/
import Derived.Test.YtggcahcdhjnemaaDoorBud5
import Derived.Test.YtggcahcdhjnemaaDoorNum07
set_option linter.unusedVariables false
set_option linter.unusedSimpArgs false
namespace Go.Proofs.YtggcahcdhjnemaaDoor
open Go.RowKit

set_option maxHeartbeats 8000000 in
set_option maxRecDepth 100000 in
theorem takes_okok (nq np xq xp : Int) (lf st en : Int) (w : World) (hL : Laid w) (h : BV nq np xq xp lf st en) (h0 : lf ≠ 0) :
    Calls Tryd.prog 5 #[bud nq np xq xp false lf st en] w fun e w' => e = .returned (.bool true) ∧ Below w.heap.size w w' := by
  have HB : Below w.heap.size w ((w.alloc (.cells #[.int .i64 nq, .int .i64 np, .int .i64 xq, .int .i64 xp, .bool false, .int .i64 lf, .int .i64 st, .int .i64 en] 30)).alloc (.cells #[.int .i64 nq, .int .i64 np, .int .i64 xq, .int .i64 xp, .bool false, .int .i64 lf, .int .i64 st, .int .i64 en] 25)) := (((Below.refl _ w).alloc (by simp) _).alloc (by simp) _)
  have k0_0 : ((w.alloc (.cells #[.int .i64 nq, .int .i64 np, .int .i64 xq, .int .i64 xp, .bool false, .int .i64 lf, .int .i64 st, .int .i64 en] 30)).alloc (.cells #[.int .i64 nq, .int .i64 np, .int .i64 xq, .int .i64 xp, .bool false, .int .i64 lf, .int .i64 st, .int .i64 en] 25)).cell? ⟨w.heap.size, 0, none⟩ = some (.int .i64 nq) := by simp
  have k0_1 : ((w.alloc (.cells #[.int .i64 nq, .int .i64 np, .int .i64 xq, .int .i64 xp, .bool false, .int .i64 lf, .int .i64 st, .int .i64 en] 30)).alloc (.cells #[.int .i64 nq, .int .i64 np, .int .i64 xq, .int .i64 xp, .bool false, .int .i64 lf, .int .i64 st, .int .i64 en] 25)).cell? ⟨w.heap.size, 1, none⟩ = some (.int .i64 np) := by simp
  have k0_2 : ((w.alloc (.cells #[.int .i64 nq, .int .i64 np, .int .i64 xq, .int .i64 xp, .bool false, .int .i64 lf, .int .i64 st, .int .i64 en] 30)).alloc (.cells #[.int .i64 nq, .int .i64 np, .int .i64 xq, .int .i64 xp, .bool false, .int .i64 lf, .int .i64 st, .int .i64 en] 25)).cell? ⟨w.heap.size, 2, none⟩ = some (.int .i64 xq) := by simp
  have k0_3 : ((w.alloc (.cells #[.int .i64 nq, .int .i64 np, .int .i64 xq, .int .i64 xp, .bool false, .int .i64 lf, .int .i64 st, .int .i64 en] 30)).alloc (.cells #[.int .i64 nq, .int .i64 np, .int .i64 xq, .int .i64 xp, .bool false, .int .i64 lf, .int .i64 st, .int .i64 en] 25)).cell? ⟨w.heap.size, 3, none⟩ = some (.int .i64 xp) := by simp
  have k0_4 : ((w.alloc (.cells #[.int .i64 nq, .int .i64 np, .int .i64 xq, .int .i64 xp, .bool false, .int .i64 lf, .int .i64 st, .int .i64 en] 30)).alloc (.cells #[.int .i64 nq, .int .i64 np, .int .i64 xq, .int .i64 xp, .bool false, .int .i64 lf, .int .i64 st, .int .i64 en] 25)).cell? ⟨w.heap.size, 4, none⟩ = some (.bool false) := by simp
  have k0_5 : ((w.alloc (.cells #[.int .i64 nq, .int .i64 np, .int .i64 xq, .int .i64 xp, .bool false, .int .i64 lf, .int .i64 st, .int .i64 en] 30)).alloc (.cells #[.int .i64 nq, .int .i64 np, .int .i64 xq, .int .i64 xp, .bool false, .int .i64 lf, .int .i64 st, .int .i64 en] 25)).cell? ⟨w.heap.size, 5, none⟩ = some (.int .i64 lf) := by simp
  have k0_6 : ((w.alloc (.cells #[.int .i64 nq, .int .i64 np, .int .i64 xq, .int .i64 xp, .bool false, .int .i64 lf, .int .i64 st, .int .i64 en] 30)).alloc (.cells #[.int .i64 nq, .int .i64 np, .int .i64 xq, .int .i64 xp, .bool false, .int .i64 lf, .int .i64 st, .int .i64 en] 25)).cell? ⟨w.heap.size, 6, none⟩ = some (.int .i64 st) := by simp
  have k0_7 : ((w.alloc (.cells #[.int .i64 nq, .int .i64 np, .int .i64 xq, .int .i64 xp, .bool false, .int .i64 lf, .int .i64 st, .int .i64 en] 30)).alloc (.cells #[.int .i64 nq, .int .i64 np, .int .i64 xq, .int .i64 xp, .bool false, .int .i64 lf, .int .i64 st, .int .i64 en] 25)).cell? ⟨w.heap.size, 7, none⟩ = some (.int .i64 en) := by simp
  have k1_0 : ((w.alloc (.cells #[.int .i64 nq, .int .i64 np, .int .i64 xq, .int .i64 xp, .bool false, .int .i64 lf, .int .i64 st, .int .i64 en] 30)).alloc (.cells #[.int .i64 nq, .int .i64 np, .int .i64 xq, .int .i64 xp, .bool false, .int .i64 lf, .int .i64 st, .int .i64 en] 25)).cell? ⟨w.heap.size + 1, 0, none⟩ = some (.int .i64 nq) := by simp
  have k1_1 : ((w.alloc (.cells #[.int .i64 nq, .int .i64 np, .int .i64 xq, .int .i64 xp, .bool false, .int .i64 lf, .int .i64 st, .int .i64 en] 30)).alloc (.cells #[.int .i64 nq, .int .i64 np, .int .i64 xq, .int .i64 xp, .bool false, .int .i64 lf, .int .i64 st, .int .i64 en] 25)).cell? ⟨w.heap.size + 1, 1, none⟩ = some (.int .i64 np) := by simp
  have k1_2 : ((w.alloc (.cells #[.int .i64 nq, .int .i64 np, .int .i64 xq, .int .i64 xp, .bool false, .int .i64 lf, .int .i64 st, .int .i64 en] 30)).alloc (.cells #[.int .i64 nq, .int .i64 np, .int .i64 xq, .int .i64 xp, .bool false, .int .i64 lf, .int .i64 st, .int .i64 en] 25)).cell? ⟨w.heap.size + 1, 2, none⟩ = some (.int .i64 xq) := by simp
  have k1_3 : ((w.alloc (.cells #[.int .i64 nq, .int .i64 np, .int .i64 xq, .int .i64 xp, .bool false, .int .i64 lf, .int .i64 st, .int .i64 en] 30)).alloc (.cells #[.int .i64 nq, .int .i64 np, .int .i64 xq, .int .i64 xp, .bool false, .int .i64 lf, .int .i64 st, .int .i64 en] 25)).cell? ⟨w.heap.size + 1, 3, none⟩ = some (.int .i64 xp) := by simp
  have k1_4 : ((w.alloc (.cells #[.int .i64 nq, .int .i64 np, .int .i64 xq, .int .i64 xp, .bool false, .int .i64 lf, .int .i64 st, .int .i64 en] 30)).alloc (.cells #[.int .i64 nq, .int .i64 np, .int .i64 xq, .int .i64 xp, .bool false, .int .i64 lf, .int .i64 st, .int .i64 en] 25)).cell? ⟨w.heap.size + 1, 4, none⟩ = some (.bool false) := by simp
  have k1_5 : ((w.alloc (.cells #[.int .i64 nq, .int .i64 np, .int .i64 xq, .int .i64 xp, .bool false, .int .i64 lf, .int .i64 st, .int .i64 en] 30)).alloc (.cells #[.int .i64 nq, .int .i64 np, .int .i64 xq, .int .i64 xp, .bool false, .int .i64 lf, .int .i64 st, .int .i64 en] 25)).cell? ⟨w.heap.size + 1, 5, none⟩ = some (.int .i64 lf) := by simp
  have k1_6 : ((w.alloc (.cells #[.int .i64 nq, .int .i64 np, .int .i64 xq, .int .i64 xp, .bool false, .int .i64 lf, .int .i64 st, .int .i64 en] 30)).alloc (.cells #[.int .i64 nq, .int .i64 np, .int .i64 xq, .int .i64 xp, .bool false, .int .i64 lf, .int .i64 st, .int .i64 en] 25)).cell? ⟨w.heap.size + 1, 6, none⟩ = some (.int .i64 st) := by simp
  have k1_7 : ((w.alloc (.cells #[.int .i64 nq, .int .i64 np, .int .i64 xq, .int .i64 xp, .bool false, .int .i64 lf, .int .i64 st, .int .i64 en] 30)).alloc (.cells #[.int .i64 nq, .int .i64 np, .int .i64 xq, .int .i64 xp, .bool false, .int .i64 lf, .int .i64 st, .int .i64 en] 25)).cell? ⟨w.heap.size + 1, 7, none⟩ = some (.int .i64 en) := by simp
  replace hL : Laid ((w.alloc (.cells #[.int .i64 nq, .int .i64 np, .int .i64 xq, .int .i64 xp, .bool false, .int .i64 lf, .int .i64 st, .int .i64 en] 30)).alloc (.cells #[.int .i64 nq, .int .i64 np, .int .i64 xq, .int .i64 xp, .bool false, .int .i64 lf, .int .i64 st, .int .i64 en] 25)) := (hL.alloc _).alloc _
  go_enter Tryd.func5, Tryd.ntmps5
  go_wp2_with fail
  refine (btake_ok nq np xq xp false lf st en _ h h0).mono ?_
  rintro e w1 ⟨rfl, hb1⟩
  replace k0_0 := keep hb1 k0_0
  replace k0_1 := keep hb1 k0_1
  replace k0_2 := keep hb1 k0_2
  replace k0_3 := keep hb1 k0_3
  replace k0_4 := keep hb1 k0_4
  replace k0_5 := keep hb1 k0_5
  replace k0_6 := keep hb1 k0_6
  replace k0_7 := keep hb1 k0_7
  replace k1_0 := keep hb1 k1_0
  replace k1_1 := keep hb1 k1_1
  replace k1_2 := keep hb1 k1_2
  replace k1_3 := keep hb1 k1_3
  replace k1_4 := keep hb1 k1_4
  replace k1_5 := keep hb1 k1_5
  replace k1_6 := keep hb1 k1_6
  replace k1_7 := keep hb1 k1_7
  replace hL := hL.below hb1
  replace HB := below_call HB (Nat.le_refl _) hb1
  clear hb1
  have hbA : Below w1.heap.size w1 (w1.alloc (.cells #[.int .i64 nq, .int .i64 np, .int .i64 xq, .int .i64 xp, .bool false, .int .i64 (lf - 1), .int .i64 st, .int .i64 en] 25)) := (Below.refl _ _).alloc (Nat.le_refl _) _
  replace k0_0 := keep hbA k0_0
  replace k0_1 := keep hbA k0_1
  replace k0_2 := keep hbA k0_2
  replace k0_3 := keep hbA k0_3
  replace k0_4 := keep hbA k0_4
  replace k0_5 := keep hbA k0_5
  replace k0_6 := keep hbA k0_6
  replace k0_7 := keep hbA k0_7
  replace k1_0 := keep hbA k1_0
  replace k1_1 := keep hbA k1_1
  replace k1_2 := keep hbA k1_2
  replace k1_3 := keep hbA k1_3
  replace k1_4 := keep hbA k1_4
  replace k1_5 := keep hbA k1_5
  replace k1_6 := keep hbA k1_6
  replace k1_7 := keep hbA k1_7
  replace hL := hL.below hbA
  replace HB := below_call HB (Nat.le_refl _) hbA
  clear hbA
  have u1_0 : (w1.alloc (.cells #[.int .i64 nq, .int .i64 np, .int .i64 xq, .int .i64 xp, .bool false, .int .i64 (lf - 1), .int .i64 st, .int .i64 en] 25)).cell? ⟨w1.heap.size, 0, none⟩ = some (.int .i64 nq) := by simp
  have u1_1 : (w1.alloc (.cells #[.int .i64 nq, .int .i64 np, .int .i64 xq, .int .i64 xp, .bool false, .int .i64 (lf - 1), .int .i64 st, .int .i64 en] 25)).cell? ⟨w1.heap.size, 1, none⟩ = some (.int .i64 np) := by simp
  have u1_2 : (w1.alloc (.cells #[.int .i64 nq, .int .i64 np, .int .i64 xq, .int .i64 xp, .bool false, .int .i64 (lf - 1), .int .i64 st, .int .i64 en] 25)).cell? ⟨w1.heap.size, 2, none⟩ = some (.int .i64 xq) := by simp
  have u1_3 : (w1.alloc (.cells #[.int .i64 nq, .int .i64 np, .int .i64 xq, .int .i64 xp, .bool false, .int .i64 (lf - 1), .int .i64 st, .int .i64 en] 25)).cell? ⟨w1.heap.size, 3, none⟩ = some (.int .i64 xp) := by simp
  have u1_4 : (w1.alloc (.cells #[.int .i64 nq, .int .i64 np, .int .i64 xq, .int .i64 xp, .bool false, .int .i64 (lf - 1), .int .i64 st, .int .i64 en] 25)).cell? ⟨w1.heap.size, 4, none⟩ = some (.bool false) := by simp
  have u1_5 : (w1.alloc (.cells #[.int .i64 nq, .int .i64 np, .int .i64 xq, .int .i64 xp, .bool false, .int .i64 (lf - 1), .int .i64 st, .int .i64 en] 25)).cell? ⟨w1.heap.size, 5, none⟩ = some (.int .i64 (lf - 1)) := by simp
  have u1_6 : (w1.alloc (.cells #[.int .i64 nq, .int .i64 np, .int .i64 xq, .int .i64 xp, .bool false, .int .i64 (lf - 1), .int .i64 st, .int .i64 en] 25)).cell? ⟨w1.heap.size, 6, none⟩ = some (.int .i64 st) := by simp
  have u1_7 : (w1.alloc (.cells #[.int .i64 nq, .int .i64 np, .int .i64 xq, .int .i64 xp, .bool false, .int .i64 (lf - 1), .int .i64 st, .int .i64 en] 25)).cell? ⟨w1.heap.size, 7, none⟩ = some (.int .i64 en) := by simp
  go_wp2_with fail
  refine (rtake_ok nq np xq xp false lf st en _ h h0).mono ?_
  rintro e w2 ⟨rfl, hb2⟩
  replace k0_0 := keep hb2 k0_0
  replace k0_1 := keep hb2 k0_1
  replace k0_2 := keep hb2 k0_2
  replace k0_3 := keep hb2 k0_3
  replace k0_4 := keep hb2 k0_4
  replace k0_5 := keep hb2 k0_5
  replace k0_6 := keep hb2 k0_6
  replace k0_7 := keep hb2 k0_7
  replace k1_0 := keep hb2 k1_0
  replace k1_1 := keep hb2 k1_1
  replace k1_2 := keep hb2 k1_2
  replace k1_3 := keep hb2 k1_3
  replace k1_4 := keep hb2 k1_4
  replace k1_5 := keep hb2 k1_5
  replace k1_6 := keep hb2 k1_6
  replace k1_7 := keep hb2 k1_7
  replace u1_0 := keep hb2 u1_0
  replace u1_1 := keep hb2 u1_1
  replace u1_2 := keep hb2 u1_2
  replace u1_3 := keep hb2 u1_3
  replace u1_4 := keep hb2 u1_4
  replace u1_5 := keep hb2 u1_5
  replace u1_6 := keep hb2 u1_6
  replace u1_7 := keep hb2 u1_7
  replace hL := hL.below hb2
  replace HB := below_call HB (Nat.le_refl _) hb2
  clear hb2
  have hbA : Below w2.heap.size w2 (w2.alloc (.cells #[.int .i64 nq, .int .i64 np, .int .i64 xq, .int .i64 xp, .bool false, .int .i64 (lf - 1), .int .i64 st, .int .i64 en] 30)) := (Below.refl _ _).alloc (Nat.le_refl _) _
  replace k0_0 := keep hbA k0_0
  replace k0_1 := keep hbA k0_1
  replace k0_2 := keep hbA k0_2
  replace k0_3 := keep hbA k0_3
  replace k0_4 := keep hbA k0_4
  replace k0_5 := keep hbA k0_5
  replace k0_6 := keep hbA k0_6
  replace k0_7 := keep hbA k0_7
  replace k1_0 := keep hbA k1_0
  replace k1_1 := keep hbA k1_1
  replace k1_2 := keep hbA k1_2
  replace k1_3 := keep hbA k1_3
  replace k1_4 := keep hbA k1_4
  replace k1_5 := keep hbA k1_5
  replace k1_6 := keep hbA k1_6
  replace k1_7 := keep hbA k1_7
  replace u1_0 := keep hbA u1_0
  replace u1_1 := keep hbA u1_1
  replace u1_2 := keep hbA u1_2
  replace u1_3 := keep hbA u1_3
  replace u1_4 := keep hbA u1_4
  replace u1_5 := keep hbA u1_5
  replace u1_6 := keep hbA u1_6
  replace u1_7 := keep hbA u1_7
  replace hL := hL.below hbA
  replace HB := below_call HB (Nat.le_refl _) hbA
  clear hbA
  have u2_0 : (w2.alloc (.cells #[.int .i64 nq, .int .i64 np, .int .i64 xq, .int .i64 xp, .bool false, .int .i64 (lf - 1), .int .i64 st, .int .i64 en] 30)).cell? ⟨w2.heap.size, 0, none⟩ = some (.int .i64 nq) := by simp
  have u2_1 : (w2.alloc (.cells #[.int .i64 nq, .int .i64 np, .int .i64 xq, .int .i64 xp, .bool false, .int .i64 (lf - 1), .int .i64 st, .int .i64 en] 30)).cell? ⟨w2.heap.size, 1, none⟩ = some (.int .i64 np) := by simp
  have u2_2 : (w2.alloc (.cells #[.int .i64 nq, .int .i64 np, .int .i64 xq, .int .i64 xp, .bool false, .int .i64 (lf - 1), .int .i64 st, .int .i64 en] 30)).cell? ⟨w2.heap.size, 2, none⟩ = some (.int .i64 xq) := by simp
  have u2_3 : (w2.alloc (.cells #[.int .i64 nq, .int .i64 np, .int .i64 xq, .int .i64 xp, .bool false, .int .i64 (lf - 1), .int .i64 st, .int .i64 en] 30)).cell? ⟨w2.heap.size, 3, none⟩ = some (.int .i64 xp) := by simp
  have u2_4 : (w2.alloc (.cells #[.int .i64 nq, .int .i64 np, .int .i64 xq, .int .i64 xp, .bool false, .int .i64 (lf - 1), .int .i64 st, .int .i64 en] 30)).cell? ⟨w2.heap.size, 4, none⟩ = some (.bool false) := by simp
  have u2_5 : (w2.alloc (.cells #[.int .i64 nq, .int .i64 np, .int .i64 xq, .int .i64 xp, .bool false, .int .i64 (lf - 1), .int .i64 st, .int .i64 en] 30)).cell? ⟨w2.heap.size, 5, none⟩ = some (.int .i64 (lf - 1)) := by simp
  have u2_6 : (w2.alloc (.cells #[.int .i64 nq, .int .i64 np, .int .i64 xq, .int .i64 xp, .bool false, .int .i64 (lf - 1), .int .i64 st, .int .i64 en] 30)).cell? ⟨w2.heap.size, 6, none⟩ = some (.int .i64 st) := by simp
  have u2_7 : (w2.alloc (.cells #[.int .i64 nq, .int .i64 np, .int .i64 xq, .int .i64 xp, .bool false, .int .i64 (lf - 1), .int .i64 st, .int .i64 en] 30)).cell? ⟨w2.heap.size, 7, none⟩ = some (.int .i64 en) := by simp
  go_wp2_with fail
  refine (bdel_ok nq np xq xp lf st en _ h).mono ?_
  rintro e w3 ⟨rfl, hb3⟩
  replace k0_0 := keep hb3 k0_0
  replace k0_1 := keep hb3 k0_1
  replace k0_2 := keep hb3 k0_2
  replace k0_3 := keep hb3 k0_3
  replace k0_4 := keep hb3 k0_4
  replace k0_5 := keep hb3 k0_5
  replace k0_6 := keep hb3 k0_6
  replace k0_7 := keep hb3 k0_7
  replace k1_0 := keep hb3 k1_0
  replace k1_1 := keep hb3 k1_1
  replace k1_2 := keep hb3 k1_2
  replace k1_3 := keep hb3 k1_3
  replace k1_4 := keep hb3 k1_4
  replace k1_5 := keep hb3 k1_5
  replace k1_6 := keep hb3 k1_6
  replace k1_7 := keep hb3 k1_7
  replace u1_0 := keep hb3 u1_0
  replace u1_1 := keep hb3 u1_1
  replace u1_2 := keep hb3 u1_2
  replace u1_3 := keep hb3 u1_3
  replace u1_4 := keep hb3 u1_4
  replace u1_5 := keep hb3 u1_5
  replace u1_6 := keep hb3 u1_6
  replace u1_7 := keep hb3 u1_7
  replace u2_0 := keep hb3 u2_0
  replace u2_1 := keep hb3 u2_1
  replace u2_2 := keep hb3 u2_2
  replace u2_3 := keep hb3 u2_3
  replace u2_4 := keep hb3 u2_4
  replace u2_5 := keep hb3 u2_5
  replace u2_6 := keep hb3 u2_6
  replace u2_7 := keep hb3 u2_7
  replace hL := hL.below hb3
  replace HB := below_call HB (Nat.le_refl _) hb3
  clear hb3
  have hbA : Below w3.heap.size w3 (w3.alloc (.cells #[.int .i64 nq, .int .i64 np, .int .i64 xq, .int .i64 xp, .bool true, .int .i64 lf, .int .i64 st, .int .i64 en] 25)) := (Below.refl _ _).alloc (Nat.le_refl _) _
  replace k0_0 := keep hbA k0_0
  replace k0_1 := keep hbA k0_1
  replace k0_2 := keep hbA k0_2
  replace k0_3 := keep hbA k0_3
  replace k0_4 := keep hbA k0_4
  replace k0_5 := keep hbA k0_5
  replace k0_6 := keep hbA k0_6
  replace k0_7 := keep hbA k0_7
  replace k1_0 := keep hbA k1_0
  replace k1_1 := keep hbA k1_1
  replace k1_2 := keep hbA k1_2
  replace k1_3 := keep hbA k1_3
  replace k1_4 := keep hbA k1_4
  replace k1_5 := keep hbA k1_5
  replace k1_6 := keep hbA k1_6
  replace k1_7 := keep hbA k1_7
  replace u1_0 := keep hbA u1_0
  replace u1_1 := keep hbA u1_1
  replace u1_2 := keep hbA u1_2
  replace u1_3 := keep hbA u1_3
  replace u1_4 := keep hbA u1_4
  replace u1_5 := keep hbA u1_5
  replace u1_6 := keep hbA u1_6
  replace u1_7 := keep hbA u1_7
  replace u2_0 := keep hbA u2_0
  replace u2_1 := keep hbA u2_1
  replace u2_2 := keep hbA u2_2
  replace u2_3 := keep hbA u2_3
  replace u2_4 := keep hbA u2_4
  replace u2_5 := keep hbA u2_5
  replace u2_6 := keep hbA u2_6
  replace u2_7 := keep hbA u2_7
  replace hL := hL.below hbA
  replace HB := below_call HB (Nat.le_refl _) hbA
  clear hbA
  have u3_0 : (w3.alloc (.cells #[.int .i64 nq, .int .i64 np, .int .i64 xq, .int .i64 xp, .bool true, .int .i64 lf, .int .i64 st, .int .i64 en] 25)).cell? ⟨w3.heap.size, 0, none⟩ = some (.int .i64 nq) := by simp
  have u3_1 : (w3.alloc (.cells #[.int .i64 nq, .int .i64 np, .int .i64 xq, .int .i64 xp, .bool true, .int .i64 lf, .int .i64 st, .int .i64 en] 25)).cell? ⟨w3.heap.size, 1, none⟩ = some (.int .i64 np) := by simp
  have u3_2 : (w3.alloc (.cells #[.int .i64 nq, .int .i64 np, .int .i64 xq, .int .i64 xp, .bool true, .int .i64 lf, .int .i64 st, .int .i64 en] 25)).cell? ⟨w3.heap.size, 2, none⟩ = some (.int .i64 xq) := by simp
  have u3_3 : (w3.alloc (.cells #[.int .i64 nq, .int .i64 np, .int .i64 xq, .int .i64 xp, .bool true, .int .i64 lf, .int .i64 st, .int .i64 en] 25)).cell? ⟨w3.heap.size, 3, none⟩ = some (.int .i64 xp) := by simp
  have u3_4 : (w3.alloc (.cells #[.int .i64 nq, .int .i64 np, .int .i64 xq, .int .i64 xp, .bool true, .int .i64 lf, .int .i64 st, .int .i64 en] 25)).cell? ⟨w3.heap.size, 4, none⟩ = some (.bool true) := by simp
  have u3_5 : (w3.alloc (.cells #[.int .i64 nq, .int .i64 np, .int .i64 xq, .int .i64 xp, .bool true, .int .i64 lf, .int .i64 st, .int .i64 en] 25)).cell? ⟨w3.heap.size, 5, none⟩ = some (.int .i64 lf) := by simp
  have u3_6 : (w3.alloc (.cells #[.int .i64 nq, .int .i64 np, .int .i64 xq, .int .i64 xp, .bool true, .int .i64 lf, .int .i64 st, .int .i64 en] 25)).cell? ⟨w3.heap.size, 6, none⟩ = some (.int .i64 st) := by simp
  have u3_7 : (w3.alloc (.cells #[.int .i64 nq, .int .i64 np, .int .i64 xq, .int .i64 xp, .bool true, .int .i64 lf, .int .i64 st, .int .i64 en] 25)).cell? ⟨w3.heap.size, 7, none⟩ = some (.int .i64 en) := by simp
  go_wp2_with fail
  refine (rdel_ok nq np xq xp lf st en _ h).mono ?_
  rintro e w4 ⟨rfl, hb4⟩
  replace k0_0 := keep hb4 k0_0
  replace k0_1 := keep hb4 k0_1
  replace k0_2 := keep hb4 k0_2
  replace k0_3 := keep hb4 k0_3
  replace k0_4 := keep hb4 k0_4
  replace k0_5 := keep hb4 k0_5
  replace k0_6 := keep hb4 k0_6
  replace k0_7 := keep hb4 k0_7
  replace k1_0 := keep hb4 k1_0
  replace k1_1 := keep hb4 k1_1
  replace k1_2 := keep hb4 k1_2
  replace k1_3 := keep hb4 k1_3
  replace k1_4 := keep hb4 k1_4
  replace k1_5 := keep hb4 k1_5
  replace k1_6 := keep hb4 k1_6
  replace k1_7 := keep hb4 k1_7
  replace u1_0 := keep hb4 u1_0
  replace u1_1 := keep hb4 u1_1
  replace u1_2 := keep hb4 u1_2
  replace u1_3 := keep hb4 u1_3
  replace u1_4 := keep hb4 u1_4
  replace u1_5 := keep hb4 u1_5
  replace u1_6 := keep hb4 u1_6
  replace u1_7 := keep hb4 u1_7
  replace u2_0 := keep hb4 u2_0
  replace u2_1 := keep hb4 u2_1
  replace u2_2 := keep hb4 u2_2
  replace u2_3 := keep hb4 u2_3
  replace u2_4 := keep hb4 u2_4
  replace u2_5 := keep hb4 u2_5
  replace u2_6 := keep hb4 u2_6
  replace u2_7 := keep hb4 u2_7
  replace u3_0 := keep hb4 u3_0
  replace u3_1 := keep hb4 u3_1
  replace u3_2 := keep hb4 u3_2
  replace u3_3 := keep hb4 u3_3
  replace u3_4 := keep hb4 u3_4
  replace u3_5 := keep hb4 u3_5
  replace u3_6 := keep hb4 u3_6
  replace u3_7 := keep hb4 u3_7
  replace hL := hL.below hb4
  replace HB := below_call HB (Nat.le_refl _) hb4
  clear hb4
  have hbA : Below w4.heap.size w4 (w4.alloc (.cells #[.int .i64 nq, .int .i64 np, .int .i64 xq, .int .i64 xp, .bool true, .int .i64 lf, .int .i64 st, .int .i64 en] 30)) := (Below.refl _ _).alloc (Nat.le_refl _) _
  replace k0_0 := keep hbA k0_0
  replace k0_1 := keep hbA k0_1
  replace k0_2 := keep hbA k0_2
  replace k0_3 := keep hbA k0_3
  replace k0_4 := keep hbA k0_4
  replace k0_5 := keep hbA k0_5
  replace k0_6 := keep hbA k0_6
  replace k0_7 := keep hbA k0_7
  replace k1_0 := keep hbA k1_0
  replace k1_1 := keep hbA k1_1
  replace k1_2 := keep hbA k1_2
  replace k1_3 := keep hbA k1_3
  replace k1_4 := keep hbA k1_4
  replace k1_5 := keep hbA k1_5
  replace k1_6 := keep hbA k1_6
  replace k1_7 := keep hbA k1_7
  replace u1_0 := keep hbA u1_0
  replace u1_1 := keep hbA u1_1
  replace u1_2 := keep hbA u1_2
  replace u1_3 := keep hbA u1_3
  replace u1_4 := keep hbA u1_4
  replace u1_5 := keep hbA u1_5
  replace u1_6 := keep hbA u1_6
  replace u1_7 := keep hbA u1_7
  replace u2_0 := keep hbA u2_0
  replace u2_1 := keep hbA u2_1
  replace u2_2 := keep hbA u2_2
  replace u2_3 := keep hbA u2_3
  replace u2_4 := keep hbA u2_4
  replace u2_5 := keep hbA u2_5
  replace u2_6 := keep hbA u2_6
  replace u2_7 := keep hbA u2_7
  replace u3_0 := keep hbA u3_0
  replace u3_1 := keep hbA u3_1
  replace u3_2 := keep hbA u3_2
  replace u3_3 := keep hbA u3_3
  replace u3_4 := keep hbA u3_4
  replace u3_5 := keep hbA u3_5
  replace u3_6 := keep hbA u3_6
  replace u3_7 := keep hbA u3_7
  replace hL := hL.below hbA
  replace HB := below_call HB (Nat.le_refl _) hbA
  clear hbA
  have u4_0 : (w4.alloc (.cells #[.int .i64 nq, .int .i64 np, .int .i64 xq, .int .i64 xp, .bool true, .int .i64 lf, .int .i64 st, .int .i64 en] 30)).cell? ⟨w4.heap.size, 0, none⟩ = some (.int .i64 nq) := by simp
  have u4_1 : (w4.alloc (.cells #[.int .i64 nq, .int .i64 np, .int .i64 xq, .int .i64 xp, .bool true, .int .i64 lf, .int .i64 st, .int .i64 en] 30)).cell? ⟨w4.heap.size, 1, none⟩ = some (.int .i64 np) := by simp
  have u4_2 : (w4.alloc (.cells #[.int .i64 nq, .int .i64 np, .int .i64 xq, .int .i64 xp, .bool true, .int .i64 lf, .int .i64 st, .int .i64 en] 30)).cell? ⟨w4.heap.size, 2, none⟩ = some (.int .i64 xq) := by simp
  have u4_3 : (w4.alloc (.cells #[.int .i64 nq, .int .i64 np, .int .i64 xq, .int .i64 xp, .bool true, .int .i64 lf, .int .i64 st, .int .i64 en] 30)).cell? ⟨w4.heap.size, 3, none⟩ = some (.int .i64 xp) := by simp
  have u4_4 : (w4.alloc (.cells #[.int .i64 nq, .int .i64 np, .int .i64 xq, .int .i64 xp, .bool true, .int .i64 lf, .int .i64 st, .int .i64 en] 30)).cell? ⟨w4.heap.size, 4, none⟩ = some (.bool true) := by simp
  have u4_5 : (w4.alloc (.cells #[.int .i64 nq, .int .i64 np, .int .i64 xq, .int .i64 xp, .bool true, .int .i64 lf, .int .i64 st, .int .i64 en] 30)).cell? ⟨w4.heap.size, 5, none⟩ = some (.int .i64 lf) := by simp
  have u4_6 : (w4.alloc (.cells #[.int .i64 nq, .int .i64 np, .int .i64 xq, .int .i64 xp, .bool true, .int .i64 lf, .int .i64 st, .int .i64 en] 30)).cell? ⟨w4.heap.size, 6, none⟩ = some (.int .i64 st) := by simp
  have u4_7 : (w4.alloc (.cells #[.int .i64 nq, .int .i64 np, .int .i64 xq, .int .i64 xp, .bool true, .int .i64 lf, .int .i64 st, .int .i64 en] 30)).cell? ⟨w4.heap.size, 7, none⟩ = some (.int .i64 en) := by simp
  go_wp2_with fail
  go_region_held3 (fun w' => w'.cell? ⟨w.heap.size, 0, none⟩ = some (.int .i64 nq) ∧ w'.cell? ⟨w.heap.size, 1, none⟩ = some (.int .i64 np) ∧ w'.cell? ⟨w.heap.size, 2, none⟩ = some (.int .i64 xq) ∧ w'.cell? ⟨w.heap.size, 3, none⟩ = some (.int .i64 xp) ∧ w'.cell? ⟨w.heap.size, 4, none⟩ = some (.bool false) ∧ w'.cell? ⟨w.heap.size, 5, none⟩ = some (.int .i64 lf) ∧ w'.cell? ⟨w.heap.size, 6, none⟩ = some (.int .i64 st) ∧ w'.cell? ⟨w.heap.size, 7, none⟩ = some (.int .i64 en) ∧ w'.cell? ⟨w.heap.size + 1, 0, none⟩ = some (.int .i64 nq) ∧ w'.cell? ⟨w.heap.size + 1, 1, none⟩ = some (.int .i64 np) ∧ w'.cell? ⟨w.heap.size + 1, 2, none⟩ = some (.int .i64 xq) ∧ w'.cell? ⟨w.heap.size + 1, 3, none⟩ = some (.int .i64 xp) ∧ w'.cell? ⟨w.heap.size + 1, 4, none⟩ = some (.bool false) ∧ w'.cell? ⟨w.heap.size + 1, 5, none⟩ = some (.int .i64 lf) ∧ w'.cell? ⟨w.heap.size + 1, 6, none⟩ = some (.int .i64 st) ∧ w'.cell? ⟨w.heap.size + 1, 7, none⟩ = some (.int .i64 en) ∧ w'.cell? ⟨w1.heap.size, 0, none⟩ = some (.int .i64 nq) ∧ w'.cell? ⟨w1.heap.size, 1, none⟩ = some (.int .i64 np) ∧ w'.cell? ⟨w1.heap.size, 2, none⟩ = some (.int .i64 xq) ∧ w'.cell? ⟨w1.heap.size, 3, none⟩ = some (.int .i64 xp) ∧ w'.cell? ⟨w1.heap.size, 4, none⟩ = some (.bool false) ∧ w'.cell? ⟨w1.heap.size, 5, none⟩ = some (.int .i64 (lf - 1)) ∧ w'.cell? ⟨w1.heap.size, 6, none⟩ = some (.int .i64 st) ∧ w'.cell? ⟨w1.heap.size, 7, none⟩ = some (.int .i64 en) ∧ w'.cell? ⟨w2.heap.size, 0, none⟩ = some (.int .i64 nq) ∧ w'.cell? ⟨w2.heap.size, 1, none⟩ = some (.int .i64 np) ∧ w'.cell? ⟨w2.heap.size, 2, none⟩ = some (.int .i64 xq) ∧ w'.cell? ⟨w2.heap.size, 3, none⟩ = some (.int .i64 xp) ∧ w'.cell? ⟨w2.heap.size, 4, none⟩ = some (.bool false) ∧ w'.cell? ⟨w2.heap.size, 5, none⟩ = some (.int .i64 (lf - 1)) ∧ w'.cell? ⟨w2.heap.size, 6, none⟩ = some (.int .i64 st) ∧ w'.cell? ⟨w2.heap.size, 7, none⟩ = some (.int .i64 en) ∧ w'.cell? ⟨w3.heap.size, 0, none⟩ = some (.int .i64 nq) ∧ w'.cell? ⟨w3.heap.size, 1, none⟩ = some (.int .i64 np) ∧ w'.cell? ⟨w3.heap.size, 2, none⟩ = some (.int .i64 xq) ∧ w'.cell? ⟨w3.heap.size, 3, none⟩ = some (.int .i64 xp) ∧ w'.cell? ⟨w3.heap.size, 4, none⟩ = some (.bool true) ∧ w'.cell? ⟨w3.heap.size, 5, none⟩ = some (.int .i64 lf) ∧ w'.cell? ⟨w3.heap.size, 6, none⟩ = some (.int .i64 st) ∧ w'.cell? ⟨w3.heap.size, 7, none⟩ = some (.int .i64 en) ∧ w'.cell? ⟨w4.heap.size, 0, none⟩ = some (.int .i64 nq) ∧ w'.cell? ⟨w4.heap.size, 1, none⟩ = some (.int .i64 np) ∧ w'.cell? ⟨w4.heap.size, 2, none⟩ = some (.int .i64 xq) ∧ w'.cell? ⟨w4.heap.size, 3, none⟩ = some (.int .i64 xp) ∧ w'.cell? ⟨w4.heap.size, 4, none⟩ = some (.bool true) ∧ w'.cell? ⟨w4.heap.size, 5, none⟩ = some (.int .i64 lf) ∧ w'.cell? ⟨w4.heap.size, 6, none⟩ = some (.int .i64 st) ∧ w'.cell? ⟨w4.heap.size, 7, none⟩ = some (.int .i64 en) ∧ Laid w' ∧ Below w.heap.size w w')
    (first
      | (go_split_ands; exact ⟨keep hb (by assumption), keep hb (by assumption), keep hb (by assumption), keep hb (by assumption), keep hb (by assumption), keep hb (by assumption), keep hb (by assumption), keep hb (by assumption), keep hb (by assumption), keep hb (by assumption), keep hb (by assumption), keep hb (by assumption), keep hb (by assumption), keep hb (by assumption), keep hb (by assumption), keep hb (by assumption), keep hb (by assumption), keep hb (by assumption), keep hb (by assumption), keep hb (by assumption), keep hb (by assumption), keep hb (by assumption), keep hb (by assumption), keep hb (by assumption), keep hb (by assumption), keep hb (by assumption), keep hb (by assumption), keep hb (by assumption), keep hb (by assumption), keep hb (by assumption), keep hb (by assumption), keep hb (by assumption), keep hb (by assumption), keep hb (by assumption), keep hb (by assumption), keep hb (by assumption), keep hb (by assumption), keep hb (by assumption), keep hb (by assumption), keep hb (by assumption), keep hb (by assumption), keep hb (by assumption), keep hb (by assumption), keep hb (by assumption), keep hb (by assumption), keep hb (by assumption), keep hb (by assumption), keep hb (by assumption), Laid.below (by assumption) hb, below_call (by assumption) (Nat.le_refl _) hb⟩)
      | (go_split_ands; exact ⟨by go_keep, by go_keep, by go_keep, by go_keep, by go_keep, by go_keep, by go_keep, by go_keep, by go_keep, by go_keep, by go_keep, by go_keep, by go_keep, by go_keep, by go_keep, by go_keep, by go_keep, by go_keep, by go_keep, by go_keep, by go_keep, by go_keep, by go_keep, by go_keep, by go_keep, by go_keep, by go_keep, by go_keep, by go_keep, by go_keep, by go_keep, by go_keep, by go_keep, by go_keep, by go_keep, by go_keep, by go_keep, by go_keep, by go_keep, by go_keep, by go_keep, by go_keep, by go_keep, by go_keep, by go_keep, by go_keep, by go_keep, by go_keep, Laid.drewN (by assumption) 1, Below.drew (by assumption)⟩))
    (first
      | (go_at_call 28; go_split_ands; (with_reducible refine (bvalid_ok nq np xq xp false lf st en _ h).mono ?_); rintro e w' ⟨rfl, hb⟩)
      | (go_at_call 29; go_split_ands; (with_reducible refine (rbvalid_ok nq np xq xp false lf st en _ h).mono ?_); rintro e w' ⟨rfl, hb⟩)
      | (go_at_call 16; go_split_ands; (with_reducible refine (num07_nil _).mono ?_); rintro e w' ⟨rfl, hb⟩)
      | (go_at_call 15; go_split_ands; (with_reducible refine (same_refl _ _ _ _ _ _ _ _ _).mono ?_); rintro e w' ⟨rfl, hb⟩)
      | (go_at_call 17; go_split_ands; (with_reducible refine (sure07 _).mono ?_); rintro e w' ⟨rfl, hb⟩))
  go_split_ands
  replace k0_0 : w'.cell? ⟨w.heap.size, 0, none⟩ = some (.int .i64 nq) := by assumption
  replace k0_1 : w'.cell? ⟨w.heap.size, 1, none⟩ = some (.int .i64 np) := by assumption
  replace k0_2 : w'.cell? ⟨w.heap.size, 2, none⟩ = some (.int .i64 xq) := by assumption
  replace k0_3 : w'.cell? ⟨w.heap.size, 3, none⟩ = some (.int .i64 xp) := by assumption
  replace k0_4 : w'.cell? ⟨w.heap.size, 4, none⟩ = some (.bool false) := by assumption
  replace k0_5 : w'.cell? ⟨w.heap.size, 5, none⟩ = some (.int .i64 lf) := by assumption
  replace k0_6 : w'.cell? ⟨w.heap.size, 6, none⟩ = some (.int .i64 st) := by assumption
  replace k0_7 : w'.cell? ⟨w.heap.size, 7, none⟩ = some (.int .i64 en) := by assumption
  replace k1_0 : w'.cell? ⟨w.heap.size + 1, 0, none⟩ = some (.int .i64 nq) := by assumption
  replace k1_1 : w'.cell? ⟨w.heap.size + 1, 1, none⟩ = some (.int .i64 np) := by assumption
  replace k1_2 : w'.cell? ⟨w.heap.size + 1, 2, none⟩ = some (.int .i64 xq) := by assumption
  replace k1_3 : w'.cell? ⟨w.heap.size + 1, 3, none⟩ = some (.int .i64 xp) := by assumption
  replace k1_4 : w'.cell? ⟨w.heap.size + 1, 4, none⟩ = some (.bool false) := by assumption
  replace k1_5 : w'.cell? ⟨w.heap.size + 1, 5, none⟩ = some (.int .i64 lf) := by assumption
  replace k1_6 : w'.cell? ⟨w.heap.size + 1, 6, none⟩ = some (.int .i64 st) := by assumption
  replace k1_7 : w'.cell? ⟨w.heap.size + 1, 7, none⟩ = some (.int .i64 en) := by assumption
  replace u1_0 : w'.cell? ⟨w1.heap.size, 0, none⟩ = some (.int .i64 nq) := by assumption
  replace u1_1 : w'.cell? ⟨w1.heap.size, 1, none⟩ = some (.int .i64 np) := by assumption
  replace u1_2 : w'.cell? ⟨w1.heap.size, 2, none⟩ = some (.int .i64 xq) := by assumption
  replace u1_3 : w'.cell? ⟨w1.heap.size, 3, none⟩ = some (.int .i64 xp) := by assumption
  replace u1_4 : w'.cell? ⟨w1.heap.size, 4, none⟩ = some (.bool false) := by assumption
  replace u1_5 : w'.cell? ⟨w1.heap.size, 5, none⟩ = some (.int .i64 (lf - 1)) := by assumption
  replace u1_6 : w'.cell? ⟨w1.heap.size, 6, none⟩ = some (.int .i64 st) := by assumption
  replace u1_7 : w'.cell? ⟨w1.heap.size, 7, none⟩ = some (.int .i64 en) := by assumption
  replace u2_0 : w'.cell? ⟨w2.heap.size, 0, none⟩ = some (.int .i64 nq) := by assumption
  replace u2_1 : w'.cell? ⟨w2.heap.size, 1, none⟩ = some (.int .i64 np) := by assumption
  replace u2_2 : w'.cell? ⟨w2.heap.size, 2, none⟩ = some (.int .i64 xq) := by assumption
  replace u2_3 : w'.cell? ⟨w2.heap.size, 3, none⟩ = some (.int .i64 xp) := by assumption
  replace u2_4 : w'.cell? ⟨w2.heap.size, 4, none⟩ = some (.bool false) := by assumption
  replace u2_5 : w'.cell? ⟨w2.heap.size, 5, none⟩ = some (.int .i64 (lf - 1)) := by assumption
  replace u2_6 : w'.cell? ⟨w2.heap.size, 6, none⟩ = some (.int .i64 st) := by assumption
  replace u2_7 : w'.cell? ⟨w2.heap.size, 7, none⟩ = some (.int .i64 en) := by assumption
  replace u3_0 : w'.cell? ⟨w3.heap.size, 0, none⟩ = some (.int .i64 nq) := by assumption
  replace u3_1 : w'.cell? ⟨w3.heap.size, 1, none⟩ = some (.int .i64 np) := by assumption
  replace u3_2 : w'.cell? ⟨w3.heap.size, 2, none⟩ = some (.int .i64 xq) := by assumption
  replace u3_3 : w'.cell? ⟨w3.heap.size, 3, none⟩ = some (.int .i64 xp) := by assumption
  replace u3_4 : w'.cell? ⟨w3.heap.size, 4, none⟩ = some (.bool true) := by assumption
  replace u3_5 : w'.cell? ⟨w3.heap.size, 5, none⟩ = some (.int .i64 lf) := by assumption
  replace u3_6 : w'.cell? ⟨w3.heap.size, 6, none⟩ = some (.int .i64 st) := by assumption
  replace u3_7 : w'.cell? ⟨w3.heap.size, 7, none⟩ = some (.int .i64 en) := by assumption
  replace u4_0 : w'.cell? ⟨w4.heap.size, 0, none⟩ = some (.int .i64 nq) := by assumption
  replace u4_1 : w'.cell? ⟨w4.heap.size, 1, none⟩ = some (.int .i64 np) := by assumption
  replace u4_2 : w'.cell? ⟨w4.heap.size, 2, none⟩ = some (.int .i64 xq) := by assumption
  replace u4_3 : w'.cell? ⟨w4.heap.size, 3, none⟩ = some (.int .i64 xp) := by assumption
  replace u4_4 : w'.cell? ⟨w4.heap.size, 4, none⟩ = some (.bool true) := by assumption
  replace u4_5 : w'.cell? ⟨w4.heap.size, 5, none⟩ = some (.int .i64 lf) := by assumption
  replace u4_6 : w'.cell? ⟨w4.heap.size, 6, none⟩ = some (.int .i64 st) := by assumption
  replace u4_7 : w'.cell? ⟨w4.heap.size, 7, none⟩ = some (.int .i64 en) := by assumption
  replace hL : Laid w' := by assumption
  replace HB : Below w.heap.size w w' := by assumption
  clear hb
  go_wp2
  go_ret
  exact ⟨rfl, HB⟩

end Go.Proofs.YtggcahcdhjnemaaDoor
