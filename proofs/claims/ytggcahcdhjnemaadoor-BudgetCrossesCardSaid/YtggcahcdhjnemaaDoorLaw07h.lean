/- The walk of BudgetCrosses: the call returns true. -/
import Derived.Test.YtggcahcdhjnemaaDoorBudG
import Derived.Test.YtggcahcdhjnemaaDoorBudD
import Derived.Test.YtggcahcdhjnemaaDoorBudE
import Derived.Test.YtggcahcdhjnemaaDoorBud5
import Derived.Test.YtggcahcdhjnemaaDoorNum07
set_option linter.unusedVariables false
set_option linter.unusedSimpArgs false
namespace Go.Proofs.YtggcahcdhjnemaaDoor
open Go.RowKit

set_option maxHeartbeats 4000000 in
set_option maxRecDepth 100000 in
theorem cx_bad (mq mp xq xp : Int) (dy : Bool) (lf st en at_ : Int) (w : World) (hL : Laid w) (h : ¬ BV mq mp xq xp lf st en) :
    Calls Tryd.prog 9 #[bud mq mp xq xp dy lf st en, .int .i64 at_] w fun e w' => e = .returned (.bool true) ∧ Below w.heap.size w w' := by
  have HB : Below w.heap.size w (w.alloc (.cells #[.int .i64 mq, .int .i64 mp, .int .i64 xq, .int .i64 xp, .bool dy, .int .i64 lf, .int .i64 st, .int .i64 en] 30)) := ((Below.refl _ w).alloc (by simp) _)
  have k0_0 : (w.alloc (.cells #[.int .i64 mq, .int .i64 mp, .int .i64 xq, .int .i64 xp, .bool dy, .int .i64 lf, .int .i64 st, .int .i64 en] 30)).cell? ⟨w.heap.size, 0, none⟩ = some (.int .i64 mq) := by simp
  have k0_1 : (w.alloc (.cells #[.int .i64 mq, .int .i64 mp, .int .i64 xq, .int .i64 xp, .bool dy, .int .i64 lf, .int .i64 st, .int .i64 en] 30)).cell? ⟨w.heap.size, 1, none⟩ = some (.int .i64 mp) := by simp
  have k0_2 : (w.alloc (.cells #[.int .i64 mq, .int .i64 mp, .int .i64 xq, .int .i64 xp, .bool dy, .int .i64 lf, .int .i64 st, .int .i64 en] 30)).cell? ⟨w.heap.size, 2, none⟩ = some (.int .i64 xq) := by simp
  have k0_3 : (w.alloc (.cells #[.int .i64 mq, .int .i64 mp, .int .i64 xq, .int .i64 xp, .bool dy, .int .i64 lf, .int .i64 st, .int .i64 en] 30)).cell? ⟨w.heap.size, 3, none⟩ = some (.int .i64 xp) := by simp
  have k0_4 : (w.alloc (.cells #[.int .i64 mq, .int .i64 mp, .int .i64 xq, .int .i64 xp, .bool dy, .int .i64 lf, .int .i64 st, .int .i64 en] 30)).cell? ⟨w.heap.size, 4, none⟩ = some (.bool dy) := by simp
  have k0_5 : (w.alloc (.cells #[.int .i64 mq, .int .i64 mp, .int .i64 xq, .int .i64 xp, .bool dy, .int .i64 lf, .int .i64 st, .int .i64 en] 30)).cell? ⟨w.heap.size, 5, none⟩ = some (.int .i64 lf) := by simp
  have k0_6 : (w.alloc (.cells #[.int .i64 mq, .int .i64 mp, .int .i64 xq, .int .i64 xp, .bool dy, .int .i64 lf, .int .i64 st, .int .i64 en] 30)).cell? ⟨w.heap.size, 6, none⟩ = some (.int .i64 st) := by simp
  have k0_7 : (w.alloc (.cells #[.int .i64 mq, .int .i64 mp, .int .i64 xq, .int .i64 xp, .bool dy, .int .i64 lf, .int .i64 st, .int .i64 en] 30)).cell? ⟨w.heap.size, 7, none⟩ = some (.int .i64 en) := by simp
  replace hL : Laid (w.alloc (.cells #[.int .i64 mq, .int .i64 mp, .int .i64 xq, .int .i64 xp, .bool dy, .int .i64 lf, .int .i64 st, .int .i64 en] 30)) := hL.alloc _
  go_enter Tryd.func9, Tryd.ntmps9
  go_wp2_with fail
  refine (bcr_bad mq mp xq xp dy lf st en at_ _ h).mono ?_
  rintro e w1 ⟨rfl, hb1⟩
  replace k0_0 := keep hb1 k0_0
  replace k0_1 := keep hb1 k0_1
  replace k0_2 := keep hb1 k0_2
  replace k0_3 := keep hb1 k0_3
  replace k0_4 := keep hb1 k0_4
  replace k0_5 := keep hb1 k0_5
  replace k0_6 := keep hb1 k0_6
  replace k0_7 := keep hb1 k0_7
  replace hL := hL.below hb1
  replace HB := below_call HB (Nat.le_refl _) hb1
  clear hb1
  have hbA : Below w1.heap.size w1 (w1.alloc (.cells #[.int .i64 0, .int .i64 0, .int .i64 0, .int .i64 0, .bool false, .int .i64 0, .int .i64 0, .int .i64 0] 25)) := (Below.refl _ _).alloc (Nat.le_refl _) _
  replace k0_0 := keep hbA k0_0
  replace k0_1 := keep hbA k0_1
  replace k0_2 := keep hbA k0_2
  replace k0_3 := keep hbA k0_3
  replace k0_4 := keep hbA k0_4
  replace k0_5 := keep hbA k0_5
  replace k0_6 := keep hbA k0_6
  replace k0_7 := keep hbA k0_7
  replace hL := hL.below hbA
  replace HB := below_call HB (Nat.le_refl _) hbA
  clear hbA
  have u1_0 : (w1.alloc (.cells #[.int .i64 0, .int .i64 0, .int .i64 0, .int .i64 0, .bool false, .int .i64 0, .int .i64 0, .int .i64 0] 25)).cell? ⟨w1.heap.size, 0, none⟩ = some (.int .i64 0) := by simp
  have u1_1 : (w1.alloc (.cells #[.int .i64 0, .int .i64 0, .int .i64 0, .int .i64 0, .bool false, .int .i64 0, .int .i64 0, .int .i64 0] 25)).cell? ⟨w1.heap.size, 1, none⟩ = some (.int .i64 0) := by simp
  have u1_2 : (w1.alloc (.cells #[.int .i64 0, .int .i64 0, .int .i64 0, .int .i64 0, .bool false, .int .i64 0, .int .i64 0, .int .i64 0] 25)).cell? ⟨w1.heap.size, 2, none⟩ = some (.int .i64 0) := by simp
  have u1_3 : (w1.alloc (.cells #[.int .i64 0, .int .i64 0, .int .i64 0, .int .i64 0, .bool false, .int .i64 0, .int .i64 0, .int .i64 0] 25)).cell? ⟨w1.heap.size, 3, none⟩ = some (.int .i64 0) := by simp
  have u1_4 : (w1.alloc (.cells #[.int .i64 0, .int .i64 0, .int .i64 0, .int .i64 0, .bool false, .int .i64 0, .int .i64 0, .int .i64 0] 25)).cell? ⟨w1.heap.size, 4, none⟩ = some (.bool false) := by simp
  have u1_5 : (w1.alloc (.cells #[.int .i64 0, .int .i64 0, .int .i64 0, .int .i64 0, .bool false, .int .i64 0, .int .i64 0, .int .i64 0] 25)).cell? ⟨w1.heap.size, 5, none⟩ = some (.int .i64 0) := by simp
  have u1_6 : (w1.alloc (.cells #[.int .i64 0, .int .i64 0, .int .i64 0, .int .i64 0, .bool false, .int .i64 0, .int .i64 0, .int .i64 0] 25)).cell? ⟨w1.heap.size, 6, none⟩ = some (.int .i64 0) := by simp
  have u1_7 : (w1.alloc (.cells #[.int .i64 0, .int .i64 0, .int .i64 0, .int .i64 0, .bool false, .int .i64 0, .int .i64 0, .int .i64 0] 25)).cell? ⟨w1.heap.size, 7, none⟩ = some (.int .i64 0) := by simp
  go_wp2_with fail
  refine (rcr_bad mq mp xq xp dy lf st en at_ _ h).mono ?_
  rintro e w2 ⟨rfl, hb2⟩
  replace k0_0 := keep hb2 k0_0
  replace k0_1 := keep hb2 k0_1
  replace k0_2 := keep hb2 k0_2
  replace k0_3 := keep hb2 k0_3
  replace k0_4 := keep hb2 k0_4
  replace k0_5 := keep hb2 k0_5
  replace k0_6 := keep hb2 k0_6
  replace k0_7 := keep hb2 k0_7
  replace u1_0 := keep hb2 u1_0
  replace u1_1 := keep hb2 u1_1
  replace u1_2 := keep hb2 u1_2
  replace u1_3 := keep hb2 u1_3
  replace u1_4 := keep hb2 u1_4
  replace u1_5 := keep hb2 u1_5
  replace u1_6 := keep hb2 u1_6
  replace u1_7 := keep hb2 u1_7
  replace hL := hL.below hb2
  replace HB := below_call HB (Nat.le_refl _) hb2
  clear hb2
  have hbA : Below w2.heap.size w2 (w2.alloc (.cells #[.int .i64 0, .int .i64 0, .int .i64 0, .int .i64 0, .bool false, .int .i64 0, .int .i64 0, .int .i64 0] 30)) := (Below.refl _ _).alloc (Nat.le_refl _) _
  replace k0_0 := keep hbA k0_0
  replace k0_1 := keep hbA k0_1
  replace k0_2 := keep hbA k0_2
  replace k0_3 := keep hbA k0_3
  replace k0_4 := keep hbA k0_4
  replace k0_5 := keep hbA k0_5
  replace k0_6 := keep hbA k0_6
  replace k0_7 := keep hbA k0_7
  replace u1_0 := keep hbA u1_0
  replace u1_1 := keep hbA u1_1
  replace u1_2 := keep hbA u1_2
  replace u1_3 := keep hbA u1_3
  replace u1_4 := keep hbA u1_4
  replace u1_5 := keep hbA u1_5
  replace u1_6 := keep hbA u1_6
  replace u1_7 := keep hbA u1_7
  replace hL := hL.below hbA
  replace HB := below_call HB (Nat.le_refl _) hbA
  clear hbA
  have u2_0 : (w2.alloc (.cells #[.int .i64 0, .int .i64 0, .int .i64 0, .int .i64 0, .bool false, .int .i64 0, .int .i64 0, .int .i64 0] 30)).cell? ⟨w2.heap.size, 0, none⟩ = some (.int .i64 0) := by simp
  have u2_1 : (w2.alloc (.cells #[.int .i64 0, .int .i64 0, .int .i64 0, .int .i64 0, .bool false, .int .i64 0, .int .i64 0, .int .i64 0] 30)).cell? ⟨w2.heap.size, 1, none⟩ = some (.int .i64 0) := by simp
  have u2_2 : (w2.alloc (.cells #[.int .i64 0, .int .i64 0, .int .i64 0, .int .i64 0, .bool false, .int .i64 0, .int .i64 0, .int .i64 0] 30)).cell? ⟨w2.heap.size, 2, none⟩ = some (.int .i64 0) := by simp
  have u2_3 : (w2.alloc (.cells #[.int .i64 0, .int .i64 0, .int .i64 0, .int .i64 0, .bool false, .int .i64 0, .int .i64 0, .int .i64 0] 30)).cell? ⟨w2.heap.size, 3, none⟩ = some (.int .i64 0) := by simp
  have u2_4 : (w2.alloc (.cells #[.int .i64 0, .int .i64 0, .int .i64 0, .int .i64 0, .bool false, .int .i64 0, .int .i64 0, .int .i64 0] 30)).cell? ⟨w2.heap.size, 4, none⟩ = some (.bool false) := by simp
  have u2_5 : (w2.alloc (.cells #[.int .i64 0, .int .i64 0, .int .i64 0, .int .i64 0, .bool false, .int .i64 0, .int .i64 0, .int .i64 0] 30)).cell? ⟨w2.heap.size, 5, none⟩ = some (.int .i64 0) := by simp
  have u2_6 : (w2.alloc (.cells #[.int .i64 0, .int .i64 0, .int .i64 0, .int .i64 0, .bool false, .int .i64 0, .int .i64 0, .int .i64 0] 30)).cell? ⟨w2.heap.size, 6, none⟩ = some (.int .i64 0) := by simp
  have u2_7 : (w2.alloc (.cells #[.int .i64 0, .int .i64 0, .int .i64 0, .int .i64 0, .bool false, .int .i64 0, .int .i64 0, .int .i64 0] 30)).cell? ⟨w2.heap.size, 7, none⟩ = some (.int .i64 0) := by simp
  go_wp2_with fail
  refine (fair_bad mq mp xq xp dy lf st en at_ _ h).mono ?_
  rintro e w3 ⟨rfl, hb3⟩
  replace k0_0 := keep hb3 k0_0
  replace k0_1 := keep hb3 k0_1
  replace k0_2 := keep hb3 k0_2
  replace k0_3 := keep hb3 k0_3
  replace k0_4 := keep hb3 k0_4
  replace k0_5 := keep hb3 k0_5
  replace k0_6 := keep hb3 k0_6
  replace k0_7 := keep hb3 k0_7
  replace u1_0 := keep hb3 u1_0
  replace u1_1 := keep hb3 u1_1
  replace u1_2 := keep hb3 u1_2
  replace u1_3 := keep hb3 u1_3
  replace u1_4 := keep hb3 u1_4
  replace u1_5 := keep hb3 u1_5
  replace u1_6 := keep hb3 u1_6
  replace u1_7 := keep hb3 u1_7
  replace u2_0 := keep hb3 u2_0
  replace u2_1 := keep hb3 u2_1
  replace u2_2 := keep hb3 u2_2
  replace u2_3 := keep hb3 u2_3
  replace u2_4 := keep hb3 u2_4
  replace u2_5 := keep hb3 u2_5
  replace u2_6 := keep hb3 u2_6
  replace u2_7 := keep hb3 u2_7
  replace hL := hL.below hb3
  replace HB := below_call HB (Nat.le_refl _) hb3
  clear hb3
  go_wp2_with fail
  refine (rfair_bad mq mp xq xp dy lf st en at_ _ h).mono ?_
  rintro e w4 ⟨rfl, hb4⟩
  replace k0_0 := keep hb4 k0_0
  replace k0_1 := keep hb4 k0_1
  replace k0_2 := keep hb4 k0_2
  replace k0_3 := keep hb4 k0_3
  replace k0_4 := keep hb4 k0_4
  replace k0_5 := keep hb4 k0_5
  replace k0_6 := keep hb4 k0_6
  replace k0_7 := keep hb4 k0_7
  replace u1_0 := keep hb4 u1_0
  replace u1_1 := keep hb4 u1_1
  replace u1_2 := keep hb4 u1_2
  replace u1_3 := keep hb4 u1_3
  replace u1_4 := keep hb4 u1_4
  replace u1_5 := keep hb4 u1_5
  replace u1_6 := keep hb4 u1_6
  replace u1_7 := keep hb4 u1_7
  replace u2_0 := keep hb4 u2_0
  replace u2_1 := keep hb4 u2_1
  replace u2_2 := keep hb4 u2_2
  replace u2_3 := keep hb4 u2_3
  replace u2_4 := keep hb4 u2_4
  replace u2_5 := keep hb4 u2_5
  replace u2_6 := keep hb4 u2_6
  replace u2_7 := keep hb4 u2_7
  replace hL := hL.below hb4
  replace HB := below_call HB (Nat.le_refl _) hb4
  clear hb4
  go_wp2_with fail
  refine (same_refl 0 0 0 0 false 0 0 0 _).mono ?_
  rintro e w5 ⟨rfl, hb5⟩
  replace k0_0 := keep hb5 k0_0
  replace k0_1 := keep hb5 k0_1
  replace k0_2 := keep hb5 k0_2
  replace k0_3 := keep hb5 k0_3
  replace k0_4 := keep hb5 k0_4
  replace k0_5 := keep hb5 k0_5
  replace k0_6 := keep hb5 k0_6
  replace k0_7 := keep hb5 k0_7
  replace u1_0 := keep hb5 u1_0
  replace u1_1 := keep hb5 u1_1
  replace u1_2 := keep hb5 u1_2
  replace u1_3 := keep hb5 u1_3
  replace u1_4 := keep hb5 u1_4
  replace u1_5 := keep hb5 u1_5
  replace u1_6 := keep hb5 u1_6
  replace u1_7 := keep hb5 u1_7
  replace u2_0 := keep hb5 u2_0
  replace u2_1 := keep hb5 u2_1
  replace u2_2 := keep hb5 u2_2
  replace u2_3 := keep hb5 u2_3
  replace u2_4 := keep hb5 u2_4
  replace u2_5 := keep hb5 u2_5
  replace u2_6 := keep hb5 u2_6
  replace u2_7 := keep hb5 u2_7
  replace hL := hL.below hb5
  replace HB := below_call HB (Nat.le_refl _) hb5
  clear hb5
  go_wp2_with fail
  refine (num07_err 270 _ hL).mono ?_
  rintro e w6 ⟨rfl, hb6⟩
  replace k0_0 := keep hb6 k0_0
  replace k0_1 := keep hb6 k0_1
  replace k0_2 := keep hb6 k0_2
  replace k0_3 := keep hb6 k0_3
  replace k0_4 := keep hb6 k0_4
  replace k0_5 := keep hb6 k0_5
  replace k0_6 := keep hb6 k0_6
  replace k0_7 := keep hb6 k0_7
  replace u1_0 := keep hb6 u1_0
  replace u1_1 := keep hb6 u1_1
  replace u1_2 := keep hb6 u1_2
  replace u1_3 := keep hb6 u1_3
  replace u1_4 := keep hb6 u1_4
  replace u1_5 := keep hb6 u1_5
  replace u1_6 := keep hb6 u1_6
  replace u1_7 := keep hb6 u1_7
  replace u2_0 := keep hb6 u2_0
  replace u2_1 := keep hb6 u2_1
  replace u2_2 := keep hb6 u2_2
  replace u2_3 := keep hb6 u2_3
  replace u2_4 := keep hb6 u2_4
  replace u2_5 := keep hb6 u2_5
  replace u2_6 := keep hb6 u2_6
  replace u2_7 := keep hb6 u2_7
  replace hL := hL.below hb6
  replace HB := below_call HB (Nat.le_refl _) hb6
  clear hb6
  go_wp2_with fail
  refine (num07_err 270 _ hL).mono ?_
  rintro e w7 ⟨rfl, hb7⟩
  replace k0_0 := keep hb7 k0_0
  replace k0_1 := keep hb7 k0_1
  replace k0_2 := keep hb7 k0_2
  replace k0_3 := keep hb7 k0_3
  replace k0_4 := keep hb7 k0_4
  replace k0_5 := keep hb7 k0_5
  replace k0_6 := keep hb7 k0_6
  replace k0_7 := keep hb7 k0_7
  replace u1_0 := keep hb7 u1_0
  replace u1_1 := keep hb7 u1_1
  replace u1_2 := keep hb7 u1_2
  replace u1_3 := keep hb7 u1_3
  replace u1_4 := keep hb7 u1_4
  replace u1_5 := keep hb7 u1_5
  replace u1_6 := keep hb7 u1_6
  replace u1_7 := keep hb7 u1_7
  replace u2_0 := keep hb7 u2_0
  replace u2_1 := keep hb7 u2_1
  replace u2_2 := keep hb7 u2_2
  replace u2_3 := keep hb7 u2_3
  replace u2_4 := keep hb7 u2_4
  replace u2_5 := keep hb7 u2_5
  replace u2_6 := keep hb7 u2_6
  replace u2_7 := keep hb7 u2_7
  replace hL := hL.below hb7
  replace HB := below_call HB (Nat.le_refl _) hb7
  clear hb7
  go_wp2_with fail
  refine (sure07 _).mono ?_
  rintro e w8 ⟨rfl, hb8⟩
  replace k0_0 := keep hb8 k0_0
  replace k0_1 := keep hb8 k0_1
  replace k0_2 := keep hb8 k0_2
  replace k0_3 := keep hb8 k0_3
  replace k0_4 := keep hb8 k0_4
  replace k0_5 := keep hb8 k0_5
  replace k0_6 := keep hb8 k0_6
  replace k0_7 := keep hb8 k0_7
  replace u1_0 := keep hb8 u1_0
  replace u1_1 := keep hb8 u1_1
  replace u1_2 := keep hb8 u1_2
  replace u1_3 := keep hb8 u1_3
  replace u1_4 := keep hb8 u1_4
  replace u1_5 := keep hb8 u1_5
  replace u1_6 := keep hb8 u1_6
  replace u1_7 := keep hb8 u1_7
  replace u2_0 := keep hb8 u2_0
  replace u2_1 := keep hb8 u2_1
  replace u2_2 := keep hb8 u2_2
  replace u2_3 := keep hb8 u2_3
  replace u2_4 := keep hb8 u2_4
  replace u2_5 := keep hb8 u2_5
  replace u2_6 := keep hb8 u2_6
  replace u2_7 := keep hb8 u2_7
  replace hL := hL.below hb8
  replace HB := below_call HB (Nat.le_refl _) hb8
  clear hb8
  go_wp2
  go_ret
  exact ⟨rfl, HB⟩

set_option maxHeartbeats 4000000 in
set_option maxRecDepth 100000 in
theorem cx_arglo (mq mp xq xp : Int) (dy : Bool) (lf st en at_ : Int) (w : World) (hL : Laid w) (h : BV mq mp xq xp lf st en) (hat : (at_ != en) = true) (h1 : at_ < st) :
    Calls Tryd.prog 9 #[bud mq mp xq xp dy lf st en, .int .i64 at_] w fun e w' => e = .returned (.bool true) ∧ Below w.heap.size w w' := by
  have HB : Below w.heap.size w (w.alloc (.cells #[.int .i64 mq, .int .i64 mp, .int .i64 xq, .int .i64 xp, .bool dy, .int .i64 lf, .int .i64 st, .int .i64 en] 30)) := ((Below.refl _ w).alloc (by simp) _)
  have k0_0 : (w.alloc (.cells #[.int .i64 mq, .int .i64 mp, .int .i64 xq, .int .i64 xp, .bool dy, .int .i64 lf, .int .i64 st, .int .i64 en] 30)).cell? ⟨w.heap.size, 0, none⟩ = some (.int .i64 mq) := by simp
  have k0_1 : (w.alloc (.cells #[.int .i64 mq, .int .i64 mp, .int .i64 xq, .int .i64 xp, .bool dy, .int .i64 lf, .int .i64 st, .int .i64 en] 30)).cell? ⟨w.heap.size, 1, none⟩ = some (.int .i64 mp) := by simp
  have k0_2 : (w.alloc (.cells #[.int .i64 mq, .int .i64 mp, .int .i64 xq, .int .i64 xp, .bool dy, .int .i64 lf, .int .i64 st, .int .i64 en] 30)).cell? ⟨w.heap.size, 2, none⟩ = some (.int .i64 xq) := by simp
  have k0_3 : (w.alloc (.cells #[.int .i64 mq, .int .i64 mp, .int .i64 xq, .int .i64 xp, .bool dy, .int .i64 lf, .int .i64 st, .int .i64 en] 30)).cell? ⟨w.heap.size, 3, none⟩ = some (.int .i64 xp) := by simp
  have k0_4 : (w.alloc (.cells #[.int .i64 mq, .int .i64 mp, .int .i64 xq, .int .i64 xp, .bool dy, .int .i64 lf, .int .i64 st, .int .i64 en] 30)).cell? ⟨w.heap.size, 4, none⟩ = some (.bool dy) := by simp
  have k0_5 : (w.alloc (.cells #[.int .i64 mq, .int .i64 mp, .int .i64 xq, .int .i64 xp, .bool dy, .int .i64 lf, .int .i64 st, .int .i64 en] 30)).cell? ⟨w.heap.size, 5, none⟩ = some (.int .i64 lf) := by simp
  have k0_6 : (w.alloc (.cells #[.int .i64 mq, .int .i64 mp, .int .i64 xq, .int .i64 xp, .bool dy, .int .i64 lf, .int .i64 st, .int .i64 en] 30)).cell? ⟨w.heap.size, 6, none⟩ = some (.int .i64 st) := by simp
  have k0_7 : (w.alloc (.cells #[.int .i64 mq, .int .i64 mp, .int .i64 xq, .int .i64 xp, .bool dy, .int .i64 lf, .int .i64 st, .int .i64 en] 30)).cell? ⟨w.heap.size, 7, none⟩ = some (.int .i64 en) := by simp
  replace hL : Laid (w.alloc (.cells #[.int .i64 mq, .int .i64 mp, .int .i64 xq, .int .i64 xp, .bool dy, .int .i64 lf, .int .i64 st, .int .i64 en] 30)) := hL.alloc _
  go_enter Tryd.func9, Tryd.ntmps9
  go_wp2_with fail
  refine (bcr_arg mq mp xq xp dy lf st en at_ _ h hat).mono ?_
  rintro e w1 ⟨rfl, hb1⟩
  replace k0_0 := keep hb1 k0_0
  replace k0_1 := keep hb1 k0_1
  replace k0_2 := keep hb1 k0_2
  replace k0_3 := keep hb1 k0_3
  replace k0_4 := keep hb1 k0_4
  replace k0_5 := keep hb1 k0_5
  replace k0_6 := keep hb1 k0_6
  replace k0_7 := keep hb1 k0_7
  replace hL := hL.below hb1
  replace HB := below_call HB (Nat.le_refl _) hb1
  clear hb1
  have hbA : Below w1.heap.size w1 (w1.alloc (.cells #[.int .i64 0, .int .i64 0, .int .i64 0, .int .i64 0, .bool false, .int .i64 0, .int .i64 0, .int .i64 0] 25)) := (Below.refl _ _).alloc (Nat.le_refl _) _
  replace k0_0 := keep hbA k0_0
  replace k0_1 := keep hbA k0_1
  replace k0_2 := keep hbA k0_2
  replace k0_3 := keep hbA k0_3
  replace k0_4 := keep hbA k0_4
  replace k0_5 := keep hbA k0_5
  replace k0_6 := keep hbA k0_6
  replace k0_7 := keep hbA k0_7
  replace hL := hL.below hbA
  replace HB := below_call HB (Nat.le_refl _) hbA
  clear hbA
  have u1_0 : (w1.alloc (.cells #[.int .i64 0, .int .i64 0, .int .i64 0, .int .i64 0, .bool false, .int .i64 0, .int .i64 0, .int .i64 0] 25)).cell? ⟨w1.heap.size, 0, none⟩ = some (.int .i64 0) := by simp
  have u1_1 : (w1.alloc (.cells #[.int .i64 0, .int .i64 0, .int .i64 0, .int .i64 0, .bool false, .int .i64 0, .int .i64 0, .int .i64 0] 25)).cell? ⟨w1.heap.size, 1, none⟩ = some (.int .i64 0) := by simp
  have u1_2 : (w1.alloc (.cells #[.int .i64 0, .int .i64 0, .int .i64 0, .int .i64 0, .bool false, .int .i64 0, .int .i64 0, .int .i64 0] 25)).cell? ⟨w1.heap.size, 2, none⟩ = some (.int .i64 0) := by simp
  have u1_3 : (w1.alloc (.cells #[.int .i64 0, .int .i64 0, .int .i64 0, .int .i64 0, .bool false, .int .i64 0, .int .i64 0, .int .i64 0] 25)).cell? ⟨w1.heap.size, 3, none⟩ = some (.int .i64 0) := by simp
  have u1_4 : (w1.alloc (.cells #[.int .i64 0, .int .i64 0, .int .i64 0, .int .i64 0, .bool false, .int .i64 0, .int .i64 0, .int .i64 0] 25)).cell? ⟨w1.heap.size, 4, none⟩ = some (.bool false) := by simp
  have u1_5 : (w1.alloc (.cells #[.int .i64 0, .int .i64 0, .int .i64 0, .int .i64 0, .bool false, .int .i64 0, .int .i64 0, .int .i64 0] 25)).cell? ⟨w1.heap.size, 5, none⟩ = some (.int .i64 0) := by simp
  have u1_6 : (w1.alloc (.cells #[.int .i64 0, .int .i64 0, .int .i64 0, .int .i64 0, .bool false, .int .i64 0, .int .i64 0, .int .i64 0] 25)).cell? ⟨w1.heap.size, 6, none⟩ = some (.int .i64 0) := by simp
  have u1_7 : (w1.alloc (.cells #[.int .i64 0, .int .i64 0, .int .i64 0, .int .i64 0, .bool false, .int .i64 0, .int .i64 0, .int .i64 0] 25)).cell? ⟨w1.heap.size, 7, none⟩ = some (.int .i64 0) := by simp
  go_wp2_with fail
  refine (rcr_arg mq mp xq xp dy lf st en at_ _ h hat).mono ?_
  rintro e w2 ⟨rfl, hb2⟩
  replace k0_0 := keep hb2 k0_0
  replace k0_1 := keep hb2 k0_1
  replace k0_2 := keep hb2 k0_2
  replace k0_3 := keep hb2 k0_3
  replace k0_4 := keep hb2 k0_4
  replace k0_5 := keep hb2 k0_5
  replace k0_6 := keep hb2 k0_6
  replace k0_7 := keep hb2 k0_7
  replace u1_0 := keep hb2 u1_0
  replace u1_1 := keep hb2 u1_1
  replace u1_2 := keep hb2 u1_2
  replace u1_3 := keep hb2 u1_3
  replace u1_4 := keep hb2 u1_4
  replace u1_5 := keep hb2 u1_5
  replace u1_6 := keep hb2 u1_6
  replace u1_7 := keep hb2 u1_7
  replace hL := hL.below hb2
  replace HB := below_call HB (Nat.le_refl _) hb2
  clear hb2
  have hbA : Below w2.heap.size w2 (w2.alloc (.cells #[.int .i64 0, .int .i64 0, .int .i64 0, .int .i64 0, .bool false, .int .i64 0, .int .i64 0, .int .i64 0] 30)) := (Below.refl _ _).alloc (Nat.le_refl _) _
  replace k0_0 := keep hbA k0_0
  replace k0_1 := keep hbA k0_1
  replace k0_2 := keep hbA k0_2
  replace k0_3 := keep hbA k0_3
  replace k0_4 := keep hbA k0_4
  replace k0_5 := keep hbA k0_5
  replace k0_6 := keep hbA k0_6
  replace k0_7 := keep hbA k0_7
  replace u1_0 := keep hbA u1_0
  replace u1_1 := keep hbA u1_1
  replace u1_2 := keep hbA u1_2
  replace u1_3 := keep hbA u1_3
  replace u1_4 := keep hbA u1_4
  replace u1_5 := keep hbA u1_5
  replace u1_6 := keep hbA u1_6
  replace u1_7 := keep hbA u1_7
  replace hL := hL.below hbA
  replace HB := below_call HB (Nat.le_refl _) hbA
  clear hbA
  have u2_0 : (w2.alloc (.cells #[.int .i64 0, .int .i64 0, .int .i64 0, .int .i64 0, .bool false, .int .i64 0, .int .i64 0, .int .i64 0] 30)).cell? ⟨w2.heap.size, 0, none⟩ = some (.int .i64 0) := by simp
  have u2_1 : (w2.alloc (.cells #[.int .i64 0, .int .i64 0, .int .i64 0, .int .i64 0, .bool false, .int .i64 0, .int .i64 0, .int .i64 0] 30)).cell? ⟨w2.heap.size, 1, none⟩ = some (.int .i64 0) := by simp
  have u2_2 : (w2.alloc (.cells #[.int .i64 0, .int .i64 0, .int .i64 0, .int .i64 0, .bool false, .int .i64 0, .int .i64 0, .int .i64 0] 30)).cell? ⟨w2.heap.size, 2, none⟩ = some (.int .i64 0) := by simp
  have u2_3 : (w2.alloc (.cells #[.int .i64 0, .int .i64 0, .int .i64 0, .int .i64 0, .bool false, .int .i64 0, .int .i64 0, .int .i64 0] 30)).cell? ⟨w2.heap.size, 3, none⟩ = some (.int .i64 0) := by simp
  have u2_4 : (w2.alloc (.cells #[.int .i64 0, .int .i64 0, .int .i64 0, .int .i64 0, .bool false, .int .i64 0, .int .i64 0, .int .i64 0] 30)).cell? ⟨w2.heap.size, 4, none⟩ = some (.bool false) := by simp
  have u2_5 : (w2.alloc (.cells #[.int .i64 0, .int .i64 0, .int .i64 0, .int .i64 0, .bool false, .int .i64 0, .int .i64 0, .int .i64 0] 30)).cell? ⟨w2.heap.size, 5, none⟩ = some (.int .i64 0) := by simp
  have u2_6 : (w2.alloc (.cells #[.int .i64 0, .int .i64 0, .int .i64 0, .int .i64 0, .bool false, .int .i64 0, .int .i64 0, .int .i64 0] 30)).cell? ⟨w2.heap.size, 6, none⟩ = some (.int .i64 0) := by simp
  have u2_7 : (w2.alloc (.cells #[.int .i64 0, .int .i64 0, .int .i64 0, .int .i64 0, .bool false, .int .i64 0, .int .i64 0, .int .i64 0] 30)).cell? ⟨w2.heap.size, 7, none⟩ = some (.int .i64 0) := by simp
  go_wp2_with fail
  refine (fair_lo mq mp xq xp dy lf st en at_ _ h (by omega)).mono ?_
  rintro e w3 ⟨rfl, hb3⟩
  replace k0_0 := keep hb3 k0_0
  replace k0_1 := keep hb3 k0_1
  replace k0_2 := keep hb3 k0_2
  replace k0_3 := keep hb3 k0_3
  replace k0_4 := keep hb3 k0_4
  replace k0_5 := keep hb3 k0_5
  replace k0_6 := keep hb3 k0_6
  replace k0_7 := keep hb3 k0_7
  replace u1_0 := keep hb3 u1_0
  replace u1_1 := keep hb3 u1_1
  replace u1_2 := keep hb3 u1_2
  replace u1_3 := keep hb3 u1_3
  replace u1_4 := keep hb3 u1_4
  replace u1_5 := keep hb3 u1_5
  replace u1_6 := keep hb3 u1_6
  replace u1_7 := keep hb3 u1_7
  replace u2_0 := keep hb3 u2_0
  replace u2_1 := keep hb3 u2_1
  replace u2_2 := keep hb3 u2_2
  replace u2_3 := keep hb3 u2_3
  replace u2_4 := keep hb3 u2_4
  replace u2_5 := keep hb3 u2_5
  replace u2_6 := keep hb3 u2_6
  replace u2_7 := keep hb3 u2_7
  replace hL := hL.below hb3
  replace HB := below_call HB (Nat.le_refl _) hb3
  clear hb3
  go_wp2_with fail
  refine (rfair_lo mq mp xq xp dy lf st en at_ _ h (by omega)).mono ?_
  rintro e w4 ⟨rfl, hb4⟩
  replace k0_0 := keep hb4 k0_0
  replace k0_1 := keep hb4 k0_1
  replace k0_2 := keep hb4 k0_2
  replace k0_3 := keep hb4 k0_3
  replace k0_4 := keep hb4 k0_4
  replace k0_5 := keep hb4 k0_5
  replace k0_6 := keep hb4 k0_6
  replace k0_7 := keep hb4 k0_7
  replace u1_0 := keep hb4 u1_0
  replace u1_1 := keep hb4 u1_1
  replace u1_2 := keep hb4 u1_2
  replace u1_3 := keep hb4 u1_3
  replace u1_4 := keep hb4 u1_4
  replace u1_5 := keep hb4 u1_5
  replace u1_6 := keep hb4 u1_6
  replace u1_7 := keep hb4 u1_7
  replace u2_0 := keep hb4 u2_0
  replace u2_1 := keep hb4 u2_1
  replace u2_2 := keep hb4 u2_2
  replace u2_3 := keep hb4 u2_3
  replace u2_4 := keep hb4 u2_4
  replace u2_5 := keep hb4 u2_5
  replace u2_6 := keep hb4 u2_6
  replace u2_7 := keep hb4 u2_7
  replace hL := hL.below hb4
  replace HB := below_call HB (Nat.le_refl _) hb4
  clear hb4
  go_wp2_with fail
  refine (same_refl 0 0 0 0 false 0 0 0 _).mono ?_
  rintro e w5 ⟨rfl, hb5⟩
  replace k0_0 := keep hb5 k0_0
  replace k0_1 := keep hb5 k0_1
  replace k0_2 := keep hb5 k0_2
  replace k0_3 := keep hb5 k0_3
  replace k0_4 := keep hb5 k0_4
  replace k0_5 := keep hb5 k0_5
  replace k0_6 := keep hb5 k0_6
  replace k0_7 := keep hb5 k0_7
  replace u1_0 := keep hb5 u1_0
  replace u1_1 := keep hb5 u1_1
  replace u1_2 := keep hb5 u1_2
  replace u1_3 := keep hb5 u1_3
  replace u1_4 := keep hb5 u1_4
  replace u1_5 := keep hb5 u1_5
  replace u1_6 := keep hb5 u1_6
  replace u1_7 := keep hb5 u1_7
  replace u2_0 := keep hb5 u2_0
  replace u2_1 := keep hb5 u2_1
  replace u2_2 := keep hb5 u2_2
  replace u2_3 := keep hb5 u2_3
  replace u2_4 := keep hb5 u2_4
  replace u2_5 := keep hb5 u2_5
  replace u2_6 := keep hb5 u2_6
  replace u2_7 := keep hb5 u2_7
  replace hL := hL.below hb5
  replace HB := below_call HB (Nat.le_refl _) hb5
  clear hb5
  go_wp2_with fail
  refine (num07_err 1 _ hL).mono ?_
  rintro e w6 ⟨rfl, hb6⟩
  replace k0_0 := keep hb6 k0_0
  replace k0_1 := keep hb6 k0_1
  replace k0_2 := keep hb6 k0_2
  replace k0_3 := keep hb6 k0_3
  replace k0_4 := keep hb6 k0_4
  replace k0_5 := keep hb6 k0_5
  replace k0_6 := keep hb6 k0_6
  replace k0_7 := keep hb6 k0_7
  replace u1_0 := keep hb6 u1_0
  replace u1_1 := keep hb6 u1_1
  replace u1_2 := keep hb6 u1_2
  replace u1_3 := keep hb6 u1_3
  replace u1_4 := keep hb6 u1_4
  replace u1_5 := keep hb6 u1_5
  replace u1_6 := keep hb6 u1_6
  replace u1_7 := keep hb6 u1_7
  replace u2_0 := keep hb6 u2_0
  replace u2_1 := keep hb6 u2_1
  replace u2_2 := keep hb6 u2_2
  replace u2_3 := keep hb6 u2_3
  replace u2_4 := keep hb6 u2_4
  replace u2_5 := keep hb6 u2_5
  replace u2_6 := keep hb6 u2_6
  replace u2_7 := keep hb6 u2_7
  replace hL := hL.below hb6
  replace HB := below_call HB (Nat.le_refl _) hb6
  clear hb6
  go_wp2_with fail
  refine (num07_err 1 _ hL).mono ?_
  rintro e w7 ⟨rfl, hb7⟩
  replace k0_0 := keep hb7 k0_0
  replace k0_1 := keep hb7 k0_1
  replace k0_2 := keep hb7 k0_2
  replace k0_3 := keep hb7 k0_3
  replace k0_4 := keep hb7 k0_4
  replace k0_5 := keep hb7 k0_5
  replace k0_6 := keep hb7 k0_6
  replace k0_7 := keep hb7 k0_7
  replace u1_0 := keep hb7 u1_0
  replace u1_1 := keep hb7 u1_1
  replace u1_2 := keep hb7 u1_2
  replace u1_3 := keep hb7 u1_3
  replace u1_4 := keep hb7 u1_4
  replace u1_5 := keep hb7 u1_5
  replace u1_6 := keep hb7 u1_6
  replace u1_7 := keep hb7 u1_7
  replace u2_0 := keep hb7 u2_0
  replace u2_1 := keep hb7 u2_1
  replace u2_2 := keep hb7 u2_2
  replace u2_3 := keep hb7 u2_3
  replace u2_4 := keep hb7 u2_4
  replace u2_5 := keep hb7 u2_5
  replace u2_6 := keep hb7 u2_6
  replace u2_7 := keep hb7 u2_7
  replace hL := hL.below hb7
  replace HB := below_call HB (Nat.le_refl _) hb7
  clear hb7
  go_wp2_with fail
  refine (sure07 _).mono ?_
  rintro e w8 ⟨rfl, hb8⟩
  replace k0_0 := keep hb8 k0_0
  replace k0_1 := keep hb8 k0_1
  replace k0_2 := keep hb8 k0_2
  replace k0_3 := keep hb8 k0_3
  replace k0_4 := keep hb8 k0_4
  replace k0_5 := keep hb8 k0_5
  replace k0_6 := keep hb8 k0_6
  replace k0_7 := keep hb8 k0_7
  replace u1_0 := keep hb8 u1_0
  replace u1_1 := keep hb8 u1_1
  replace u1_2 := keep hb8 u1_2
  replace u1_3 := keep hb8 u1_3
  replace u1_4 := keep hb8 u1_4
  replace u1_5 := keep hb8 u1_5
  replace u1_6 := keep hb8 u1_6
  replace u1_7 := keep hb8 u1_7
  replace u2_0 := keep hb8 u2_0
  replace u2_1 := keep hb8 u2_1
  replace u2_2 := keep hb8 u2_2
  replace u2_3 := keep hb8 u2_3
  replace u2_4 := keep hb8 u2_4
  replace u2_5 := keep hb8 u2_5
  replace u2_6 := keep hb8 u2_6
  replace u2_7 := keep hb8 u2_7
  replace hL := hL.below hb8
  replace HB := below_call HB (Nat.le_refl _) hb8
  clear hb8
  go_wp2
  go_ret
  exact ⟨rfl, HB⟩

set_option maxHeartbeats 4000000 in
set_option maxRecDepth 100000 in
theorem cx_arghi (mq mp xq xp : Int) (dy : Bool) (lf st en at_ : Int) (w : World) (hL : Laid w) (h : BV mq mp xq xp lf st en) (hat : (at_ != en) = true) (h1 : st ≤ at_) (h2 : en < at_) :
    Calls Tryd.prog 9 #[bud mq mp xq xp dy lf st en, .int .i64 at_] w fun e w' => e = .returned (.bool true) ∧ Below w.heap.size w w' := by
  have HB : Below w.heap.size w (w.alloc (.cells #[.int .i64 mq, .int .i64 mp, .int .i64 xq, .int .i64 xp, .bool dy, .int .i64 lf, .int .i64 st, .int .i64 en] 30)) := ((Below.refl _ w).alloc (by simp) _)
  have k0_0 : (w.alloc (.cells #[.int .i64 mq, .int .i64 mp, .int .i64 xq, .int .i64 xp, .bool dy, .int .i64 lf, .int .i64 st, .int .i64 en] 30)).cell? ⟨w.heap.size, 0, none⟩ = some (.int .i64 mq) := by simp
  have k0_1 : (w.alloc (.cells #[.int .i64 mq, .int .i64 mp, .int .i64 xq, .int .i64 xp, .bool dy, .int .i64 lf, .int .i64 st, .int .i64 en] 30)).cell? ⟨w.heap.size, 1, none⟩ = some (.int .i64 mp) := by simp
  have k0_2 : (w.alloc (.cells #[.int .i64 mq, .int .i64 mp, .int .i64 xq, .int .i64 xp, .bool dy, .int .i64 lf, .int .i64 st, .int .i64 en] 30)).cell? ⟨w.heap.size, 2, none⟩ = some (.int .i64 xq) := by simp
  have k0_3 : (w.alloc (.cells #[.int .i64 mq, .int .i64 mp, .int .i64 xq, .int .i64 xp, .bool dy, .int .i64 lf, .int .i64 st, .int .i64 en] 30)).cell? ⟨w.heap.size, 3, none⟩ = some (.int .i64 xp) := by simp
  have k0_4 : (w.alloc (.cells #[.int .i64 mq, .int .i64 mp, .int .i64 xq, .int .i64 xp, .bool dy, .int .i64 lf, .int .i64 st, .int .i64 en] 30)).cell? ⟨w.heap.size, 4, none⟩ = some (.bool dy) := by simp
  have k0_5 : (w.alloc (.cells #[.int .i64 mq, .int .i64 mp, .int .i64 xq, .int .i64 xp, .bool dy, .int .i64 lf, .int .i64 st, .int .i64 en] 30)).cell? ⟨w.heap.size, 5, none⟩ = some (.int .i64 lf) := by simp
  have k0_6 : (w.alloc (.cells #[.int .i64 mq, .int .i64 mp, .int .i64 xq, .int .i64 xp, .bool dy, .int .i64 lf, .int .i64 st, .int .i64 en] 30)).cell? ⟨w.heap.size, 6, none⟩ = some (.int .i64 st) := by simp
  have k0_7 : (w.alloc (.cells #[.int .i64 mq, .int .i64 mp, .int .i64 xq, .int .i64 xp, .bool dy, .int .i64 lf, .int .i64 st, .int .i64 en] 30)).cell? ⟨w.heap.size, 7, none⟩ = some (.int .i64 en) := by simp
  replace hL : Laid (w.alloc (.cells #[.int .i64 mq, .int .i64 mp, .int .i64 xq, .int .i64 xp, .bool dy, .int .i64 lf, .int .i64 st, .int .i64 en] 30)) := hL.alloc _
  go_enter Tryd.func9, Tryd.ntmps9
  go_wp2_with fail
  refine (bcr_arg mq mp xq xp dy lf st en at_ _ h hat).mono ?_
  rintro e w1 ⟨rfl, hb1⟩
  replace k0_0 := keep hb1 k0_0
  replace k0_1 := keep hb1 k0_1
  replace k0_2 := keep hb1 k0_2
  replace k0_3 := keep hb1 k0_3
  replace k0_4 := keep hb1 k0_4
  replace k0_5 := keep hb1 k0_5
  replace k0_6 := keep hb1 k0_6
  replace k0_7 := keep hb1 k0_7
  replace hL := hL.below hb1
  replace HB := below_call HB (Nat.le_refl _) hb1
  clear hb1
  have hbA : Below w1.heap.size w1 (w1.alloc (.cells #[.int .i64 0, .int .i64 0, .int .i64 0, .int .i64 0, .bool false, .int .i64 0, .int .i64 0, .int .i64 0] 25)) := (Below.refl _ _).alloc (Nat.le_refl _) _
  replace k0_0 := keep hbA k0_0
  replace k0_1 := keep hbA k0_1
  replace k0_2 := keep hbA k0_2
  replace k0_3 := keep hbA k0_3
  replace k0_4 := keep hbA k0_4
  replace k0_5 := keep hbA k0_5
  replace k0_6 := keep hbA k0_6
  replace k0_7 := keep hbA k0_7
  replace hL := hL.below hbA
  replace HB := below_call HB (Nat.le_refl _) hbA
  clear hbA
  have u1_0 : (w1.alloc (.cells #[.int .i64 0, .int .i64 0, .int .i64 0, .int .i64 0, .bool false, .int .i64 0, .int .i64 0, .int .i64 0] 25)).cell? ⟨w1.heap.size, 0, none⟩ = some (.int .i64 0) := by simp
  have u1_1 : (w1.alloc (.cells #[.int .i64 0, .int .i64 0, .int .i64 0, .int .i64 0, .bool false, .int .i64 0, .int .i64 0, .int .i64 0] 25)).cell? ⟨w1.heap.size, 1, none⟩ = some (.int .i64 0) := by simp
  have u1_2 : (w1.alloc (.cells #[.int .i64 0, .int .i64 0, .int .i64 0, .int .i64 0, .bool false, .int .i64 0, .int .i64 0, .int .i64 0] 25)).cell? ⟨w1.heap.size, 2, none⟩ = some (.int .i64 0) := by simp
  have u1_3 : (w1.alloc (.cells #[.int .i64 0, .int .i64 0, .int .i64 0, .int .i64 0, .bool false, .int .i64 0, .int .i64 0, .int .i64 0] 25)).cell? ⟨w1.heap.size, 3, none⟩ = some (.int .i64 0) := by simp
  have u1_4 : (w1.alloc (.cells #[.int .i64 0, .int .i64 0, .int .i64 0, .int .i64 0, .bool false, .int .i64 0, .int .i64 0, .int .i64 0] 25)).cell? ⟨w1.heap.size, 4, none⟩ = some (.bool false) := by simp
  have u1_5 : (w1.alloc (.cells #[.int .i64 0, .int .i64 0, .int .i64 0, .int .i64 0, .bool false, .int .i64 0, .int .i64 0, .int .i64 0] 25)).cell? ⟨w1.heap.size, 5, none⟩ = some (.int .i64 0) := by simp
  have u1_6 : (w1.alloc (.cells #[.int .i64 0, .int .i64 0, .int .i64 0, .int .i64 0, .bool false, .int .i64 0, .int .i64 0, .int .i64 0] 25)).cell? ⟨w1.heap.size, 6, none⟩ = some (.int .i64 0) := by simp
  have u1_7 : (w1.alloc (.cells #[.int .i64 0, .int .i64 0, .int .i64 0, .int .i64 0, .bool false, .int .i64 0, .int .i64 0, .int .i64 0] 25)).cell? ⟨w1.heap.size, 7, none⟩ = some (.int .i64 0) := by simp
  go_wp2_with fail
  refine (rcr_arg mq mp xq xp dy lf st en at_ _ h hat).mono ?_
  rintro e w2 ⟨rfl, hb2⟩
  replace k0_0 := keep hb2 k0_0
  replace k0_1 := keep hb2 k0_1
  replace k0_2 := keep hb2 k0_2
  replace k0_3 := keep hb2 k0_3
  replace k0_4 := keep hb2 k0_4
  replace k0_5 := keep hb2 k0_5
  replace k0_6 := keep hb2 k0_6
  replace k0_7 := keep hb2 k0_7
  replace u1_0 := keep hb2 u1_0
  replace u1_1 := keep hb2 u1_1
  replace u1_2 := keep hb2 u1_2
  replace u1_3 := keep hb2 u1_3
  replace u1_4 := keep hb2 u1_4
  replace u1_5 := keep hb2 u1_5
  replace u1_6 := keep hb2 u1_6
  replace u1_7 := keep hb2 u1_7
  replace hL := hL.below hb2
  replace HB := below_call HB (Nat.le_refl _) hb2
  clear hb2
  have hbA : Below w2.heap.size w2 (w2.alloc (.cells #[.int .i64 0, .int .i64 0, .int .i64 0, .int .i64 0, .bool false, .int .i64 0, .int .i64 0, .int .i64 0] 30)) := (Below.refl _ _).alloc (Nat.le_refl _) _
  replace k0_0 := keep hbA k0_0
  replace k0_1 := keep hbA k0_1
  replace k0_2 := keep hbA k0_2
  replace k0_3 := keep hbA k0_3
  replace k0_4 := keep hbA k0_4
  replace k0_5 := keep hbA k0_5
  replace k0_6 := keep hbA k0_6
  replace k0_7 := keep hbA k0_7
  replace u1_0 := keep hbA u1_0
  replace u1_1 := keep hbA u1_1
  replace u1_2 := keep hbA u1_2
  replace u1_3 := keep hbA u1_3
  replace u1_4 := keep hbA u1_4
  replace u1_5 := keep hbA u1_5
  replace u1_6 := keep hbA u1_6
  replace u1_7 := keep hbA u1_7
  replace hL := hL.below hbA
  replace HB := below_call HB (Nat.le_refl _) hbA
  clear hbA
  have u2_0 : (w2.alloc (.cells #[.int .i64 0, .int .i64 0, .int .i64 0, .int .i64 0, .bool false, .int .i64 0, .int .i64 0, .int .i64 0] 30)).cell? ⟨w2.heap.size, 0, none⟩ = some (.int .i64 0) := by simp
  have u2_1 : (w2.alloc (.cells #[.int .i64 0, .int .i64 0, .int .i64 0, .int .i64 0, .bool false, .int .i64 0, .int .i64 0, .int .i64 0] 30)).cell? ⟨w2.heap.size, 1, none⟩ = some (.int .i64 0) := by simp
  have u2_2 : (w2.alloc (.cells #[.int .i64 0, .int .i64 0, .int .i64 0, .int .i64 0, .bool false, .int .i64 0, .int .i64 0, .int .i64 0] 30)).cell? ⟨w2.heap.size, 2, none⟩ = some (.int .i64 0) := by simp
  have u2_3 : (w2.alloc (.cells #[.int .i64 0, .int .i64 0, .int .i64 0, .int .i64 0, .bool false, .int .i64 0, .int .i64 0, .int .i64 0] 30)).cell? ⟨w2.heap.size, 3, none⟩ = some (.int .i64 0) := by simp
  have u2_4 : (w2.alloc (.cells #[.int .i64 0, .int .i64 0, .int .i64 0, .int .i64 0, .bool false, .int .i64 0, .int .i64 0, .int .i64 0] 30)).cell? ⟨w2.heap.size, 4, none⟩ = some (.bool false) := by simp
  have u2_5 : (w2.alloc (.cells #[.int .i64 0, .int .i64 0, .int .i64 0, .int .i64 0, .bool false, .int .i64 0, .int .i64 0, .int .i64 0] 30)).cell? ⟨w2.heap.size, 5, none⟩ = some (.int .i64 0) := by simp
  have u2_6 : (w2.alloc (.cells #[.int .i64 0, .int .i64 0, .int .i64 0, .int .i64 0, .bool false, .int .i64 0, .int .i64 0, .int .i64 0] 30)).cell? ⟨w2.heap.size, 6, none⟩ = some (.int .i64 0) := by simp
  have u2_7 : (w2.alloc (.cells #[.int .i64 0, .int .i64 0, .int .i64 0, .int .i64 0, .bool false, .int .i64 0, .int .i64 0, .int .i64 0] 30)).cell? ⟨w2.heap.size, 7, none⟩ = some (.int .i64 0) := by simp
  go_wp2_with fail
  refine (fair_hi mq mp xq xp dy lf st en at_ _ h (by omega) (by omega)).mono ?_
  rintro e w3 ⟨rfl, hb3⟩
  replace k0_0 := keep hb3 k0_0
  replace k0_1 := keep hb3 k0_1
  replace k0_2 := keep hb3 k0_2
  replace k0_3 := keep hb3 k0_3
  replace k0_4 := keep hb3 k0_4
  replace k0_5 := keep hb3 k0_5
  replace k0_6 := keep hb3 k0_6
  replace k0_7 := keep hb3 k0_7
  replace u1_0 := keep hb3 u1_0
  replace u1_1 := keep hb3 u1_1
  replace u1_2 := keep hb3 u1_2
  replace u1_3 := keep hb3 u1_3
  replace u1_4 := keep hb3 u1_4
  replace u1_5 := keep hb3 u1_5
  replace u1_6 := keep hb3 u1_6
  replace u1_7 := keep hb3 u1_7
  replace u2_0 := keep hb3 u2_0
  replace u2_1 := keep hb3 u2_1
  replace u2_2 := keep hb3 u2_2
  replace u2_3 := keep hb3 u2_3
  replace u2_4 := keep hb3 u2_4
  replace u2_5 := keep hb3 u2_5
  replace u2_6 := keep hb3 u2_6
  replace u2_7 := keep hb3 u2_7
  replace hL := hL.below hb3
  replace HB := below_call HB (Nat.le_refl _) hb3
  clear hb3
  go_wp2_with fail
  refine (rfair_hi mq mp xq xp dy lf st en at_ _ h (by omega) (by omega)).mono ?_
  rintro e w4 ⟨rfl, hb4⟩
  replace k0_0 := keep hb4 k0_0
  replace k0_1 := keep hb4 k0_1
  replace k0_2 := keep hb4 k0_2
  replace k0_3 := keep hb4 k0_3
  replace k0_4 := keep hb4 k0_4
  replace k0_5 := keep hb4 k0_5
  replace k0_6 := keep hb4 k0_6
  replace k0_7 := keep hb4 k0_7
  replace u1_0 := keep hb4 u1_0
  replace u1_1 := keep hb4 u1_1
  replace u1_2 := keep hb4 u1_2
  replace u1_3 := keep hb4 u1_3
  replace u1_4 := keep hb4 u1_4
  replace u1_5 := keep hb4 u1_5
  replace u1_6 := keep hb4 u1_6
  replace u1_7 := keep hb4 u1_7
  replace u2_0 := keep hb4 u2_0
  replace u2_1 := keep hb4 u2_1
  replace u2_2 := keep hb4 u2_2
  replace u2_3 := keep hb4 u2_3
  replace u2_4 := keep hb4 u2_4
  replace u2_5 := keep hb4 u2_5
  replace u2_6 := keep hb4 u2_6
  replace u2_7 := keep hb4 u2_7
  replace hL := hL.below hb4
  replace HB := below_call HB (Nat.le_refl _) hb4
  clear hb4
  go_wp2_with fail
  refine (same_refl 0 0 0 0 false 0 0 0 _).mono ?_
  rintro e w5 ⟨rfl, hb5⟩
  replace k0_0 := keep hb5 k0_0
  replace k0_1 := keep hb5 k0_1
  replace k0_2 := keep hb5 k0_2
  replace k0_3 := keep hb5 k0_3
  replace k0_4 := keep hb5 k0_4
  replace k0_5 := keep hb5 k0_5
  replace k0_6 := keep hb5 k0_6
  replace k0_7 := keep hb5 k0_7
  replace u1_0 := keep hb5 u1_0
  replace u1_1 := keep hb5 u1_1
  replace u1_2 := keep hb5 u1_2
  replace u1_3 := keep hb5 u1_3
  replace u1_4 := keep hb5 u1_4
  replace u1_5 := keep hb5 u1_5
  replace u1_6 := keep hb5 u1_6
  replace u1_7 := keep hb5 u1_7
  replace u2_0 := keep hb5 u2_0
  replace u2_1 := keep hb5 u2_1
  replace u2_2 := keep hb5 u2_2
  replace u2_3 := keep hb5 u2_3
  replace u2_4 := keep hb5 u2_4
  replace u2_5 := keep hb5 u2_5
  replace u2_6 := keep hb5 u2_6
  replace u2_7 := keep hb5 u2_7
  replace hL := hL.below hb5
  replace HB := below_call HB (Nat.le_refl _) hb5
  clear hb5
  go_wp2_with fail
  refine (num07_err 1 _ hL).mono ?_
  rintro e w6 ⟨rfl, hb6⟩
  replace k0_0 := keep hb6 k0_0
  replace k0_1 := keep hb6 k0_1
  replace k0_2 := keep hb6 k0_2
  replace k0_3 := keep hb6 k0_3
  replace k0_4 := keep hb6 k0_4
  replace k0_5 := keep hb6 k0_5
  replace k0_6 := keep hb6 k0_6
  replace k0_7 := keep hb6 k0_7
  replace u1_0 := keep hb6 u1_0
  replace u1_1 := keep hb6 u1_1
  replace u1_2 := keep hb6 u1_2
  replace u1_3 := keep hb6 u1_3
  replace u1_4 := keep hb6 u1_4
  replace u1_5 := keep hb6 u1_5
  replace u1_6 := keep hb6 u1_6
  replace u1_7 := keep hb6 u1_7
  replace u2_0 := keep hb6 u2_0
  replace u2_1 := keep hb6 u2_1
  replace u2_2 := keep hb6 u2_2
  replace u2_3 := keep hb6 u2_3
  replace u2_4 := keep hb6 u2_4
  replace u2_5 := keep hb6 u2_5
  replace u2_6 := keep hb6 u2_6
  replace u2_7 := keep hb6 u2_7
  replace hL := hL.below hb6
  replace HB := below_call HB (Nat.le_refl _) hb6
  clear hb6
  go_wp2_with fail
  refine (num07_err 1 _ hL).mono ?_
  rintro e w7 ⟨rfl, hb7⟩
  replace k0_0 := keep hb7 k0_0
  replace k0_1 := keep hb7 k0_1
  replace k0_2 := keep hb7 k0_2
  replace k0_3 := keep hb7 k0_3
  replace k0_4 := keep hb7 k0_4
  replace k0_5 := keep hb7 k0_5
  replace k0_6 := keep hb7 k0_6
  replace k0_7 := keep hb7 k0_7
  replace u1_0 := keep hb7 u1_0
  replace u1_1 := keep hb7 u1_1
  replace u1_2 := keep hb7 u1_2
  replace u1_3 := keep hb7 u1_3
  replace u1_4 := keep hb7 u1_4
  replace u1_5 := keep hb7 u1_5
  replace u1_6 := keep hb7 u1_6
  replace u1_7 := keep hb7 u1_7
  replace u2_0 := keep hb7 u2_0
  replace u2_1 := keep hb7 u2_1
  replace u2_2 := keep hb7 u2_2
  replace u2_3 := keep hb7 u2_3
  replace u2_4 := keep hb7 u2_4
  replace u2_5 := keep hb7 u2_5
  replace u2_6 := keep hb7 u2_6
  replace u2_7 := keep hb7 u2_7
  replace hL := hL.below hb7
  replace HB := below_call HB (Nat.le_refl _) hb7
  clear hb7
  go_wp2_with fail
  refine (sure07 _).mono ?_
  rintro e w8 ⟨rfl, hb8⟩
  replace k0_0 := keep hb8 k0_0
  replace k0_1 := keep hb8 k0_1
  replace k0_2 := keep hb8 k0_2
  replace k0_3 := keep hb8 k0_3
  replace k0_4 := keep hb8 k0_4
  replace k0_5 := keep hb8 k0_5
  replace k0_6 := keep hb8 k0_6
  replace k0_7 := keep hb8 k0_7
  replace u1_0 := keep hb8 u1_0
  replace u1_1 := keep hb8 u1_1
  replace u1_2 := keep hb8 u1_2
  replace u1_3 := keep hb8 u1_3
  replace u1_4 := keep hb8 u1_4
  replace u1_5 := keep hb8 u1_5
  replace u1_6 := keep hb8 u1_6
  replace u1_7 := keep hb8 u1_7
  replace u2_0 := keep hb8 u2_0
  replace u2_1 := keep hb8 u2_1
  replace u2_2 := keep hb8 u2_2
  replace u2_3 := keep hb8 u2_3
  replace u2_4 := keep hb8 u2_4
  replace u2_5 := keep hb8 u2_5
  replace u2_6 := keep hb8 u2_6
  replace u2_7 := keep hb8 u2_7
  replace hL := hL.below hb8
  replace HB := below_call HB (Nat.le_refl _) hb8
  clear hb8
  go_wp2
  go_ret
  exact ⟨rfl, HB⟩

set_option maxHeartbeats 4000000 in
set_option maxRecDepth 100000 in
theorem cx_argok (mq mp xq xp : Int) (dy : Bool) (lf st en at_ : Int) (w : World) (hL : Laid w) (h : BV mq mp xq xp lf st en) (hat : (at_ != en) = true) (h1 : st ≤ at_) (h2 : at_ ≤ en) :
    Calls Tryd.prog 9 #[bud mq mp xq xp dy lf st en, .int .i64 at_] w fun e w' => e = .returned (.bool true) ∧ Below w.heap.size w w' := by
  have HB : Below w.heap.size w (w.alloc (.cells #[.int .i64 mq, .int .i64 mp, .int .i64 xq, .int .i64 xp, .bool dy, .int .i64 lf, .int .i64 st, .int .i64 en] 30)) := ((Below.refl _ w).alloc (by simp) _)
  have k0_0 : (w.alloc (.cells #[.int .i64 mq, .int .i64 mp, .int .i64 xq, .int .i64 xp, .bool dy, .int .i64 lf, .int .i64 st, .int .i64 en] 30)).cell? ⟨w.heap.size, 0, none⟩ = some (.int .i64 mq) := by simp
  have k0_1 : (w.alloc (.cells #[.int .i64 mq, .int .i64 mp, .int .i64 xq, .int .i64 xp, .bool dy, .int .i64 lf, .int .i64 st, .int .i64 en] 30)).cell? ⟨w.heap.size, 1, none⟩ = some (.int .i64 mp) := by simp
  have k0_2 : (w.alloc (.cells #[.int .i64 mq, .int .i64 mp, .int .i64 xq, .int .i64 xp, .bool dy, .int .i64 lf, .int .i64 st, .int .i64 en] 30)).cell? ⟨w.heap.size, 2, none⟩ = some (.int .i64 xq) := by simp
  have k0_3 : (w.alloc (.cells #[.int .i64 mq, .int .i64 mp, .int .i64 xq, .int .i64 xp, .bool dy, .int .i64 lf, .int .i64 st, .int .i64 en] 30)).cell? ⟨w.heap.size, 3, none⟩ = some (.int .i64 xp) := by simp
  have k0_4 : (w.alloc (.cells #[.int .i64 mq, .int .i64 mp, .int .i64 xq, .int .i64 xp, .bool dy, .int .i64 lf, .int .i64 st, .int .i64 en] 30)).cell? ⟨w.heap.size, 4, none⟩ = some (.bool dy) := by simp
  have k0_5 : (w.alloc (.cells #[.int .i64 mq, .int .i64 mp, .int .i64 xq, .int .i64 xp, .bool dy, .int .i64 lf, .int .i64 st, .int .i64 en] 30)).cell? ⟨w.heap.size, 5, none⟩ = some (.int .i64 lf) := by simp
  have k0_6 : (w.alloc (.cells #[.int .i64 mq, .int .i64 mp, .int .i64 xq, .int .i64 xp, .bool dy, .int .i64 lf, .int .i64 st, .int .i64 en] 30)).cell? ⟨w.heap.size, 6, none⟩ = some (.int .i64 st) := by simp
  have k0_7 : (w.alloc (.cells #[.int .i64 mq, .int .i64 mp, .int .i64 xq, .int .i64 xp, .bool dy, .int .i64 lf, .int .i64 st, .int .i64 en] 30)).cell? ⟨w.heap.size, 7, none⟩ = some (.int .i64 en) := by simp
  replace hL : Laid (w.alloc (.cells #[.int .i64 mq, .int .i64 mp, .int .i64 xq, .int .i64 xp, .bool dy, .int .i64 lf, .int .i64 st, .int .i64 en] 30)) := hL.alloc _
  go_enter Tryd.func9, Tryd.ntmps9
  go_wp2_with fail
  refine (bcr_arg mq mp xq xp dy lf st en at_ _ h hat).mono ?_
  rintro e w1 ⟨rfl, hb1⟩
  replace k0_0 := keep hb1 k0_0
  replace k0_1 := keep hb1 k0_1
  replace k0_2 := keep hb1 k0_2
  replace k0_3 := keep hb1 k0_3
  replace k0_4 := keep hb1 k0_4
  replace k0_5 := keep hb1 k0_5
  replace k0_6 := keep hb1 k0_6
  replace k0_7 := keep hb1 k0_7
  replace hL := hL.below hb1
  replace HB := below_call HB (Nat.le_refl _) hb1
  clear hb1
  have hbA : Below w1.heap.size w1 (w1.alloc (.cells #[.int .i64 0, .int .i64 0, .int .i64 0, .int .i64 0, .bool false, .int .i64 0, .int .i64 0, .int .i64 0] 25)) := (Below.refl _ _).alloc (Nat.le_refl _) _
  replace k0_0 := keep hbA k0_0
  replace k0_1 := keep hbA k0_1
  replace k0_2 := keep hbA k0_2
  replace k0_3 := keep hbA k0_3
  replace k0_4 := keep hbA k0_4
  replace k0_5 := keep hbA k0_5
  replace k0_6 := keep hbA k0_6
  replace k0_7 := keep hbA k0_7
  replace hL := hL.below hbA
  replace HB := below_call HB (Nat.le_refl _) hbA
  clear hbA
  have u1_0 : (w1.alloc (.cells #[.int .i64 0, .int .i64 0, .int .i64 0, .int .i64 0, .bool false, .int .i64 0, .int .i64 0, .int .i64 0] 25)).cell? ⟨w1.heap.size, 0, none⟩ = some (.int .i64 0) := by simp
  have u1_1 : (w1.alloc (.cells #[.int .i64 0, .int .i64 0, .int .i64 0, .int .i64 0, .bool false, .int .i64 0, .int .i64 0, .int .i64 0] 25)).cell? ⟨w1.heap.size, 1, none⟩ = some (.int .i64 0) := by simp
  have u1_2 : (w1.alloc (.cells #[.int .i64 0, .int .i64 0, .int .i64 0, .int .i64 0, .bool false, .int .i64 0, .int .i64 0, .int .i64 0] 25)).cell? ⟨w1.heap.size, 2, none⟩ = some (.int .i64 0) := by simp
  have u1_3 : (w1.alloc (.cells #[.int .i64 0, .int .i64 0, .int .i64 0, .int .i64 0, .bool false, .int .i64 0, .int .i64 0, .int .i64 0] 25)).cell? ⟨w1.heap.size, 3, none⟩ = some (.int .i64 0) := by simp
  have u1_4 : (w1.alloc (.cells #[.int .i64 0, .int .i64 0, .int .i64 0, .int .i64 0, .bool false, .int .i64 0, .int .i64 0, .int .i64 0] 25)).cell? ⟨w1.heap.size, 4, none⟩ = some (.bool false) := by simp
  have u1_5 : (w1.alloc (.cells #[.int .i64 0, .int .i64 0, .int .i64 0, .int .i64 0, .bool false, .int .i64 0, .int .i64 0, .int .i64 0] 25)).cell? ⟨w1.heap.size, 5, none⟩ = some (.int .i64 0) := by simp
  have u1_6 : (w1.alloc (.cells #[.int .i64 0, .int .i64 0, .int .i64 0, .int .i64 0, .bool false, .int .i64 0, .int .i64 0, .int .i64 0] 25)).cell? ⟨w1.heap.size, 6, none⟩ = some (.int .i64 0) := by simp
  have u1_7 : (w1.alloc (.cells #[.int .i64 0, .int .i64 0, .int .i64 0, .int .i64 0, .bool false, .int .i64 0, .int .i64 0, .int .i64 0] 25)).cell? ⟨w1.heap.size, 7, none⟩ = some (.int .i64 0) := by simp
  go_wp2_with fail
  refine (rcr_arg mq mp xq xp dy lf st en at_ _ h hat).mono ?_
  rintro e w2 ⟨rfl, hb2⟩
  replace k0_0 := keep hb2 k0_0
  replace k0_1 := keep hb2 k0_1
  replace k0_2 := keep hb2 k0_2
  replace k0_3 := keep hb2 k0_3
  replace k0_4 := keep hb2 k0_4
  replace k0_5 := keep hb2 k0_5
  replace k0_6 := keep hb2 k0_6
  replace k0_7 := keep hb2 k0_7
  replace u1_0 := keep hb2 u1_0
  replace u1_1 := keep hb2 u1_1
  replace u1_2 := keep hb2 u1_2
  replace u1_3 := keep hb2 u1_3
  replace u1_4 := keep hb2 u1_4
  replace u1_5 := keep hb2 u1_5
  replace u1_6 := keep hb2 u1_6
  replace u1_7 := keep hb2 u1_7
  replace hL := hL.below hb2
  replace HB := below_call HB (Nat.le_refl _) hb2
  clear hb2
  have hbA : Below w2.heap.size w2 (w2.alloc (.cells #[.int .i64 0, .int .i64 0, .int .i64 0, .int .i64 0, .bool false, .int .i64 0, .int .i64 0, .int .i64 0] 30)) := (Below.refl _ _).alloc (Nat.le_refl _) _
  replace k0_0 := keep hbA k0_0
  replace k0_1 := keep hbA k0_1
  replace k0_2 := keep hbA k0_2
  replace k0_3 := keep hbA k0_3
  replace k0_4 := keep hbA k0_4
  replace k0_5 := keep hbA k0_5
  replace k0_6 := keep hbA k0_6
  replace k0_7 := keep hbA k0_7
  replace u1_0 := keep hbA u1_0
  replace u1_1 := keep hbA u1_1
  replace u1_2 := keep hbA u1_2
  replace u1_3 := keep hbA u1_3
  replace u1_4 := keep hbA u1_4
  replace u1_5 := keep hbA u1_5
  replace u1_6 := keep hbA u1_6
  replace u1_7 := keep hbA u1_7
  replace hL := hL.below hbA
  replace HB := below_call HB (Nat.le_refl _) hbA
  clear hbA
  have u2_0 : (w2.alloc (.cells #[.int .i64 0, .int .i64 0, .int .i64 0, .int .i64 0, .bool false, .int .i64 0, .int .i64 0, .int .i64 0] 30)).cell? ⟨w2.heap.size, 0, none⟩ = some (.int .i64 0) := by simp
  have u2_1 : (w2.alloc (.cells #[.int .i64 0, .int .i64 0, .int .i64 0, .int .i64 0, .bool false, .int .i64 0, .int .i64 0, .int .i64 0] 30)).cell? ⟨w2.heap.size, 1, none⟩ = some (.int .i64 0) := by simp
  have u2_2 : (w2.alloc (.cells #[.int .i64 0, .int .i64 0, .int .i64 0, .int .i64 0, .bool false, .int .i64 0, .int .i64 0, .int .i64 0] 30)).cell? ⟨w2.heap.size, 2, none⟩ = some (.int .i64 0) := by simp
  have u2_3 : (w2.alloc (.cells #[.int .i64 0, .int .i64 0, .int .i64 0, .int .i64 0, .bool false, .int .i64 0, .int .i64 0, .int .i64 0] 30)).cell? ⟨w2.heap.size, 3, none⟩ = some (.int .i64 0) := by simp
  have u2_4 : (w2.alloc (.cells #[.int .i64 0, .int .i64 0, .int .i64 0, .int .i64 0, .bool false, .int .i64 0, .int .i64 0, .int .i64 0] 30)).cell? ⟨w2.heap.size, 4, none⟩ = some (.bool false) := by simp
  have u2_5 : (w2.alloc (.cells #[.int .i64 0, .int .i64 0, .int .i64 0, .int .i64 0, .bool false, .int .i64 0, .int .i64 0, .int .i64 0] 30)).cell? ⟨w2.heap.size, 5, none⟩ = some (.int .i64 0) := by simp
  have u2_6 : (w2.alloc (.cells #[.int .i64 0, .int .i64 0, .int .i64 0, .int .i64 0, .bool false, .int .i64 0, .int .i64 0, .int .i64 0] 30)).cell? ⟨w2.heap.size, 6, none⟩ = some (.int .i64 0) := by simp
  have u2_7 : (w2.alloc (.cells #[.int .i64 0, .int .i64 0, .int .i64 0, .int .i64 0, .bool false, .int .i64 0, .int .i64 0, .int .i64 0] 30)).cell? ⟨w2.heap.size, 7, none⟩ = some (.int .i64 0) := by simp
  go_wp2_with fail
  refine (fair_ok mq mp xq xp dy lf st en at_ _ h (by omega) (by omega)).mono ?_
  rintro e w3 ⟨rfl, hb3⟩
  replace k0_0 := keep hb3 k0_0
  replace k0_1 := keep hb3 k0_1
  replace k0_2 := keep hb3 k0_2
  replace k0_3 := keep hb3 k0_3
  replace k0_4 := keep hb3 k0_4
  replace k0_5 := keep hb3 k0_5
  replace k0_6 := keep hb3 k0_6
  replace k0_7 := keep hb3 k0_7
  replace u1_0 := keep hb3 u1_0
  replace u1_1 := keep hb3 u1_1
  replace u1_2 := keep hb3 u1_2
  replace u1_3 := keep hb3 u1_3
  replace u1_4 := keep hb3 u1_4
  replace u1_5 := keep hb3 u1_5
  replace u1_6 := keep hb3 u1_6
  replace u1_7 := keep hb3 u1_7
  replace u2_0 := keep hb3 u2_0
  replace u2_1 := keep hb3 u2_1
  replace u2_2 := keep hb3 u2_2
  replace u2_3 := keep hb3 u2_3
  replace u2_4 := keep hb3 u2_4
  replace u2_5 := keep hb3 u2_5
  replace u2_6 := keep hb3 u2_6
  replace u2_7 := keep hb3 u2_7
  replace hL := hL.below hb3
  replace HB := below_call HB (Nat.le_refl _) hb3
  clear hb3
  go_wp2_with fail
  refine (rfair_ok mq mp xq xp dy lf st en at_ _ h (by omega) (by omega)).mono ?_
  rintro e w4 ⟨rfl, hb4⟩
  replace k0_0 := keep hb4 k0_0
  replace k0_1 := keep hb4 k0_1
  replace k0_2 := keep hb4 k0_2
  replace k0_3 := keep hb4 k0_3
  replace k0_4 := keep hb4 k0_4
  replace k0_5 := keep hb4 k0_5
  replace k0_6 := keep hb4 k0_6
  replace k0_7 := keep hb4 k0_7
  replace u1_0 := keep hb4 u1_0
  replace u1_1 := keep hb4 u1_1
  replace u1_2 := keep hb4 u1_2
  replace u1_3 := keep hb4 u1_3
  replace u1_4 := keep hb4 u1_4
  replace u1_5 := keep hb4 u1_5
  replace u1_6 := keep hb4 u1_6
  replace u1_7 := keep hb4 u1_7
  replace u2_0 := keep hb4 u2_0
  replace u2_1 := keep hb4 u2_1
  replace u2_2 := keep hb4 u2_2
  replace u2_3 := keep hb4 u2_3
  replace u2_4 := keep hb4 u2_4
  replace u2_5 := keep hb4 u2_5
  replace u2_6 := keep hb4 u2_6
  replace u2_7 := keep hb4 u2_7
  replace hL := hL.below hb4
  replace HB := below_call HB (Nat.le_refl _) hb4
  clear hb4
  go_wp2_with fail
  refine (same_refl 0 0 0 0 false 0 0 0 _).mono ?_
  rintro e w5 ⟨rfl, hb5⟩
  replace k0_0 := keep hb5 k0_0
  replace k0_1 := keep hb5 k0_1
  replace k0_2 := keep hb5 k0_2
  replace k0_3 := keep hb5 k0_3
  replace k0_4 := keep hb5 k0_4
  replace k0_5 := keep hb5 k0_5
  replace k0_6 := keep hb5 k0_6
  replace k0_7 := keep hb5 k0_7
  replace u1_0 := keep hb5 u1_0
  replace u1_1 := keep hb5 u1_1
  replace u1_2 := keep hb5 u1_2
  replace u1_3 := keep hb5 u1_3
  replace u1_4 := keep hb5 u1_4
  replace u1_5 := keep hb5 u1_5
  replace u1_6 := keep hb5 u1_6
  replace u1_7 := keep hb5 u1_7
  replace u2_0 := keep hb5 u2_0
  replace u2_1 := keep hb5 u2_1
  replace u2_2 := keep hb5 u2_2
  replace u2_3 := keep hb5 u2_3
  replace u2_4 := keep hb5 u2_4
  replace u2_5 := keep hb5 u2_5
  replace u2_6 := keep hb5 u2_6
  replace u2_7 := keep hb5 u2_7
  replace hL := hL.below hb5
  replace HB := below_call HB (Nat.le_refl _) hb5
  clear hb5
  go_wp2_with fail
  refine (num07_err 1 _ hL).mono ?_
  rintro e w6 ⟨rfl, hb6⟩
  replace k0_0 := keep hb6 k0_0
  replace k0_1 := keep hb6 k0_1
  replace k0_2 := keep hb6 k0_2
  replace k0_3 := keep hb6 k0_3
  replace k0_4 := keep hb6 k0_4
  replace k0_5 := keep hb6 k0_5
  replace k0_6 := keep hb6 k0_6
  replace k0_7 := keep hb6 k0_7
  replace u1_0 := keep hb6 u1_0
  replace u1_1 := keep hb6 u1_1
  replace u1_2 := keep hb6 u1_2
  replace u1_3 := keep hb6 u1_3
  replace u1_4 := keep hb6 u1_4
  replace u1_5 := keep hb6 u1_5
  replace u1_6 := keep hb6 u1_6
  replace u1_7 := keep hb6 u1_7
  replace u2_0 := keep hb6 u2_0
  replace u2_1 := keep hb6 u2_1
  replace u2_2 := keep hb6 u2_2
  replace u2_3 := keep hb6 u2_3
  replace u2_4 := keep hb6 u2_4
  replace u2_5 := keep hb6 u2_5
  replace u2_6 := keep hb6 u2_6
  replace u2_7 := keep hb6 u2_7
  replace hL := hL.below hb6
  replace HB := below_call HB (Nat.le_refl _) hb6
  clear hb6
  go_wp2_with fail
  refine (num07_nil _).mono ?_
  rintro e w7 ⟨rfl, hb7⟩
  replace k0_0 := keep hb7 k0_0
  replace k0_1 := keep hb7 k0_1
  replace k0_2 := keep hb7 k0_2
  replace k0_3 := keep hb7 k0_3
  replace k0_4 := keep hb7 k0_4
  replace k0_5 := keep hb7 k0_5
  replace k0_6 := keep hb7 k0_6
  replace k0_7 := keep hb7 k0_7
  replace u1_0 := keep hb7 u1_0
  replace u1_1 := keep hb7 u1_1
  replace u1_2 := keep hb7 u1_2
  replace u1_3 := keep hb7 u1_3
  replace u1_4 := keep hb7 u1_4
  replace u1_5 := keep hb7 u1_5
  replace u1_6 := keep hb7 u1_6
  replace u1_7 := keep hb7 u1_7
  replace u2_0 := keep hb7 u2_0
  replace u2_1 := keep hb7 u2_1
  replace u2_2 := keep hb7 u2_2
  replace u2_3 := keep hb7 u2_3
  replace u2_4 := keep hb7 u2_4
  replace u2_5 := keep hb7 u2_5
  replace u2_6 := keep hb7 u2_6
  replace u2_7 := keep hb7 u2_7
  replace hL := hL.below hb7
  replace HB := below_call HB (Nat.le_refl _) hb7
  clear hb7
  go_wp2_with fail
  refine (sure07 _).mono ?_
  rintro e w8 ⟨rfl, hb8⟩
  replace k0_0 := keep hb8 k0_0
  replace k0_1 := keep hb8 k0_1
  replace k0_2 := keep hb8 k0_2
  replace k0_3 := keep hb8 k0_3
  replace k0_4 := keep hb8 k0_4
  replace k0_5 := keep hb8 k0_5
  replace k0_6 := keep hb8 k0_6
  replace k0_7 := keep hb8 k0_7
  replace u1_0 := keep hb8 u1_0
  replace u1_1 := keep hb8 u1_1
  replace u1_2 := keep hb8 u1_2
  replace u1_3 := keep hb8 u1_3
  replace u1_4 := keep hb8 u1_4
  replace u1_5 := keep hb8 u1_5
  replace u1_6 := keep hb8 u1_6
  replace u1_7 := keep hb8 u1_7
  replace u2_0 := keep hb8 u2_0
  replace u2_1 := keep hb8 u2_1
  replace u2_2 := keep hb8 u2_2
  replace u2_3 := keep hb8 u2_3
  replace u2_4 := keep hb8 u2_4
  replace u2_5 := keep hb8 u2_5
  replace u2_6 := keep hb8 u2_6
  replace u2_7 := keep hb8 u2_7
  replace hL := hL.below hb8
  replace HB := below_call HB (Nat.le_refl _) hb8
  clear hb8
  go_wp2
  go_ret
  exact ⟨rfl, HB⟩

set_option maxHeartbeats 4000000 in
set_option maxRecDepth 100000 in
theorem cx_time (mq mp xq xp : Int) (dy : Bool) (lf st en : Int) (w : World) (hL : Laid w) (h : BV mq mp xq xp lf st en) (ht : 1073741824 < en) :
    Calls Tryd.prog 9 #[bud mq mp xq xp dy lf st en, .int .i64 en] w fun e w' => e = .returned (.bool true) ∧ Below w.heap.size w w' := by
  have g1 : st ≤ en := (by have := h.2.2.2.2.2.2; have := h.1.lo; have := h.1.le; omega)
  have HB : Below w.heap.size w (w.alloc (.cells #[.int .i64 mq, .int .i64 mp, .int .i64 xq, .int .i64 xp, .bool dy, .int .i64 lf, .int .i64 st, .int .i64 en] 30)) := ((Below.refl _ w).alloc (by simp) _)
  have k0_0 : (w.alloc (.cells #[.int .i64 mq, .int .i64 mp, .int .i64 xq, .int .i64 xp, .bool dy, .int .i64 lf, .int .i64 st, .int .i64 en] 30)).cell? ⟨w.heap.size, 0, none⟩ = some (.int .i64 mq) := by simp
  have k0_1 : (w.alloc (.cells #[.int .i64 mq, .int .i64 mp, .int .i64 xq, .int .i64 xp, .bool dy, .int .i64 lf, .int .i64 st, .int .i64 en] 30)).cell? ⟨w.heap.size, 1, none⟩ = some (.int .i64 mp) := by simp
  have k0_2 : (w.alloc (.cells #[.int .i64 mq, .int .i64 mp, .int .i64 xq, .int .i64 xp, .bool dy, .int .i64 lf, .int .i64 st, .int .i64 en] 30)).cell? ⟨w.heap.size, 2, none⟩ = some (.int .i64 xq) := by simp
  have k0_3 : (w.alloc (.cells #[.int .i64 mq, .int .i64 mp, .int .i64 xq, .int .i64 xp, .bool dy, .int .i64 lf, .int .i64 st, .int .i64 en] 30)).cell? ⟨w.heap.size, 3, none⟩ = some (.int .i64 xp) := by simp
  have k0_4 : (w.alloc (.cells #[.int .i64 mq, .int .i64 mp, .int .i64 xq, .int .i64 xp, .bool dy, .int .i64 lf, .int .i64 st, .int .i64 en] 30)).cell? ⟨w.heap.size, 4, none⟩ = some (.bool dy) := by simp
  have k0_5 : (w.alloc (.cells #[.int .i64 mq, .int .i64 mp, .int .i64 xq, .int .i64 xp, .bool dy, .int .i64 lf, .int .i64 st, .int .i64 en] 30)).cell? ⟨w.heap.size, 5, none⟩ = some (.int .i64 lf) := by simp
  have k0_6 : (w.alloc (.cells #[.int .i64 mq, .int .i64 mp, .int .i64 xq, .int .i64 xp, .bool dy, .int .i64 lf, .int .i64 st, .int .i64 en] 30)).cell? ⟨w.heap.size, 6, none⟩ = some (.int .i64 st) := by simp
  have k0_7 : (w.alloc (.cells #[.int .i64 mq, .int .i64 mp, .int .i64 xq, .int .i64 xp, .bool dy, .int .i64 lf, .int .i64 st, .int .i64 en] 30)).cell? ⟨w.heap.size, 7, none⟩ = some (.int .i64 en) := by simp
  replace hL : Laid (w.alloc (.cells #[.int .i64 mq, .int .i64 mp, .int .i64 xq, .int .i64 xp, .bool dy, .int .i64 lf, .int .i64 st, .int .i64 en] 30)) := hL.alloc _
  go_enter Tryd.func9, Tryd.ntmps9
  go_wp2_with fail
  refine (bcr_time mq mp xq xp dy lf st en _ h ht).mono ?_
  rintro e w1 ⟨rfl, hb1⟩
  replace k0_0 := keep hb1 k0_0
  replace k0_1 := keep hb1 k0_1
  replace k0_2 := keep hb1 k0_2
  replace k0_3 := keep hb1 k0_3
  replace k0_4 := keep hb1 k0_4
  replace k0_5 := keep hb1 k0_5
  replace k0_6 := keep hb1 k0_6
  replace k0_7 := keep hb1 k0_7
  replace hL := hL.below hb1
  replace HB := below_call HB (Nat.le_refl _) hb1
  clear hb1
  have hbA : Below w1.heap.size w1 (w1.alloc (.cells #[.int .i64 0, .int .i64 0, .int .i64 0, .int .i64 0, .bool false, .int .i64 0, .int .i64 0, .int .i64 0] 25)) := (Below.refl _ _).alloc (Nat.le_refl _) _
  replace k0_0 := keep hbA k0_0
  replace k0_1 := keep hbA k0_1
  replace k0_2 := keep hbA k0_2
  replace k0_3 := keep hbA k0_3
  replace k0_4 := keep hbA k0_4
  replace k0_5 := keep hbA k0_5
  replace k0_6 := keep hbA k0_6
  replace k0_7 := keep hbA k0_7
  replace hL := hL.below hbA
  replace HB := below_call HB (Nat.le_refl _) hbA
  clear hbA
  have u1_0 : (w1.alloc (.cells #[.int .i64 0, .int .i64 0, .int .i64 0, .int .i64 0, .bool false, .int .i64 0, .int .i64 0, .int .i64 0] 25)).cell? ⟨w1.heap.size, 0, none⟩ = some (.int .i64 0) := by simp
  have u1_1 : (w1.alloc (.cells #[.int .i64 0, .int .i64 0, .int .i64 0, .int .i64 0, .bool false, .int .i64 0, .int .i64 0, .int .i64 0] 25)).cell? ⟨w1.heap.size, 1, none⟩ = some (.int .i64 0) := by simp
  have u1_2 : (w1.alloc (.cells #[.int .i64 0, .int .i64 0, .int .i64 0, .int .i64 0, .bool false, .int .i64 0, .int .i64 0, .int .i64 0] 25)).cell? ⟨w1.heap.size, 2, none⟩ = some (.int .i64 0) := by simp
  have u1_3 : (w1.alloc (.cells #[.int .i64 0, .int .i64 0, .int .i64 0, .int .i64 0, .bool false, .int .i64 0, .int .i64 0, .int .i64 0] 25)).cell? ⟨w1.heap.size, 3, none⟩ = some (.int .i64 0) := by simp
  have u1_4 : (w1.alloc (.cells #[.int .i64 0, .int .i64 0, .int .i64 0, .int .i64 0, .bool false, .int .i64 0, .int .i64 0, .int .i64 0] 25)).cell? ⟨w1.heap.size, 4, none⟩ = some (.bool false) := by simp
  have u1_5 : (w1.alloc (.cells #[.int .i64 0, .int .i64 0, .int .i64 0, .int .i64 0, .bool false, .int .i64 0, .int .i64 0, .int .i64 0] 25)).cell? ⟨w1.heap.size, 5, none⟩ = some (.int .i64 0) := by simp
  have u1_6 : (w1.alloc (.cells #[.int .i64 0, .int .i64 0, .int .i64 0, .int .i64 0, .bool false, .int .i64 0, .int .i64 0, .int .i64 0] 25)).cell? ⟨w1.heap.size, 6, none⟩ = some (.int .i64 0) := by simp
  have u1_7 : (w1.alloc (.cells #[.int .i64 0, .int .i64 0, .int .i64 0, .int .i64 0, .bool false, .int .i64 0, .int .i64 0, .int .i64 0] 25)).cell? ⟨w1.heap.size, 7, none⟩ = some (.int .i64 0) := by simp
  go_wp2_with fail
  refine (rcr_time mq mp xq xp dy lf st en _ h ht).mono ?_
  rintro e w2 ⟨rfl, hb2⟩
  replace k0_0 := keep hb2 k0_0
  replace k0_1 := keep hb2 k0_1
  replace k0_2 := keep hb2 k0_2
  replace k0_3 := keep hb2 k0_3
  replace k0_4 := keep hb2 k0_4
  replace k0_5 := keep hb2 k0_5
  replace k0_6 := keep hb2 k0_6
  replace k0_7 := keep hb2 k0_7
  replace u1_0 := keep hb2 u1_0
  replace u1_1 := keep hb2 u1_1
  replace u1_2 := keep hb2 u1_2
  replace u1_3 := keep hb2 u1_3
  replace u1_4 := keep hb2 u1_4
  replace u1_5 := keep hb2 u1_5
  replace u1_6 := keep hb2 u1_6
  replace u1_7 := keep hb2 u1_7
  replace hL := hL.below hb2
  replace HB := below_call HB (Nat.le_refl _) hb2
  clear hb2
  have hbA : Below w2.heap.size w2 (w2.alloc (.cells #[.int .i64 0, .int .i64 0, .int .i64 0, .int .i64 0, .bool false, .int .i64 0, .int .i64 0, .int .i64 0] 30)) := (Below.refl _ _).alloc (Nat.le_refl _) _
  replace k0_0 := keep hbA k0_0
  replace k0_1 := keep hbA k0_1
  replace k0_2 := keep hbA k0_2
  replace k0_3 := keep hbA k0_3
  replace k0_4 := keep hbA k0_4
  replace k0_5 := keep hbA k0_5
  replace k0_6 := keep hbA k0_6
  replace k0_7 := keep hbA k0_7
  replace u1_0 := keep hbA u1_0
  replace u1_1 := keep hbA u1_1
  replace u1_2 := keep hbA u1_2
  replace u1_3 := keep hbA u1_3
  replace u1_4 := keep hbA u1_4
  replace u1_5 := keep hbA u1_5
  replace u1_6 := keep hbA u1_6
  replace u1_7 := keep hbA u1_7
  replace hL := hL.below hbA
  replace HB := below_call HB (Nat.le_refl _) hbA
  clear hbA
  have u2_0 : (w2.alloc (.cells #[.int .i64 0, .int .i64 0, .int .i64 0, .int .i64 0, .bool false, .int .i64 0, .int .i64 0, .int .i64 0] 30)).cell? ⟨w2.heap.size, 0, none⟩ = some (.int .i64 0) := by simp
  have u2_1 : (w2.alloc (.cells #[.int .i64 0, .int .i64 0, .int .i64 0, .int .i64 0, .bool false, .int .i64 0, .int .i64 0, .int .i64 0] 30)).cell? ⟨w2.heap.size, 1, none⟩ = some (.int .i64 0) := by simp
  have u2_2 : (w2.alloc (.cells #[.int .i64 0, .int .i64 0, .int .i64 0, .int .i64 0, .bool false, .int .i64 0, .int .i64 0, .int .i64 0] 30)).cell? ⟨w2.heap.size, 2, none⟩ = some (.int .i64 0) := by simp
  have u2_3 : (w2.alloc (.cells #[.int .i64 0, .int .i64 0, .int .i64 0, .int .i64 0, .bool false, .int .i64 0, .int .i64 0, .int .i64 0] 30)).cell? ⟨w2.heap.size, 3, none⟩ = some (.int .i64 0) := by simp
  have u2_4 : (w2.alloc (.cells #[.int .i64 0, .int .i64 0, .int .i64 0, .int .i64 0, .bool false, .int .i64 0, .int .i64 0, .int .i64 0] 30)).cell? ⟨w2.heap.size, 4, none⟩ = some (.bool false) := by simp
  have u2_5 : (w2.alloc (.cells #[.int .i64 0, .int .i64 0, .int .i64 0, .int .i64 0, .bool false, .int .i64 0, .int .i64 0, .int .i64 0] 30)).cell? ⟨w2.heap.size, 5, none⟩ = some (.int .i64 0) := by simp
  have u2_6 : (w2.alloc (.cells #[.int .i64 0, .int .i64 0, .int .i64 0, .int .i64 0, .bool false, .int .i64 0, .int .i64 0, .int .i64 0] 30)).cell? ⟨w2.heap.size, 6, none⟩ = some (.int .i64 0) := by simp
  have u2_7 : (w2.alloc (.cells #[.int .i64 0, .int .i64 0, .int .i64 0, .int .i64 0, .bool false, .int .i64 0, .int .i64 0, .int .i64 0] 30)).cell? ⟨w2.heap.size, 7, none⟩ = some (.int .i64 0) := by simp
  go_wp2_with fail
  refine (fair_ok mq mp xq xp dy lf st en en _ h (by omega) (by omega)).mono ?_
  rintro e w3 ⟨rfl, hb3⟩
  replace k0_0 := keep hb3 k0_0
  replace k0_1 := keep hb3 k0_1
  replace k0_2 := keep hb3 k0_2
  replace k0_3 := keep hb3 k0_3
  replace k0_4 := keep hb3 k0_4
  replace k0_5 := keep hb3 k0_5
  replace k0_6 := keep hb3 k0_6
  replace k0_7 := keep hb3 k0_7
  replace u1_0 := keep hb3 u1_0
  replace u1_1 := keep hb3 u1_1
  replace u1_2 := keep hb3 u1_2
  replace u1_3 := keep hb3 u1_3
  replace u1_4 := keep hb3 u1_4
  replace u1_5 := keep hb3 u1_5
  replace u1_6 := keep hb3 u1_6
  replace u1_7 := keep hb3 u1_7
  replace u2_0 := keep hb3 u2_0
  replace u2_1 := keep hb3 u2_1
  replace u2_2 := keep hb3 u2_2
  replace u2_3 := keep hb3 u2_3
  replace u2_4 := keep hb3 u2_4
  replace u2_5 := keep hb3 u2_5
  replace u2_6 := keep hb3 u2_6
  replace u2_7 := keep hb3 u2_7
  replace hL := hL.below hb3
  replace HB := below_call HB (Nat.le_refl _) hb3
  clear hb3
  go_wp2_with fail
  refine (rfair_ok mq mp xq xp dy lf st en en _ h (by omega) (by omega)).mono ?_
  rintro e w4 ⟨rfl, hb4⟩
  replace k0_0 := keep hb4 k0_0
  replace k0_1 := keep hb4 k0_1
  replace k0_2 := keep hb4 k0_2
  replace k0_3 := keep hb4 k0_3
  replace k0_4 := keep hb4 k0_4
  replace k0_5 := keep hb4 k0_5
  replace k0_6 := keep hb4 k0_6
  replace k0_7 := keep hb4 k0_7
  replace u1_0 := keep hb4 u1_0
  replace u1_1 := keep hb4 u1_1
  replace u1_2 := keep hb4 u1_2
  replace u1_3 := keep hb4 u1_3
  replace u1_4 := keep hb4 u1_4
  replace u1_5 := keep hb4 u1_5
  replace u1_6 := keep hb4 u1_6
  replace u1_7 := keep hb4 u1_7
  replace u2_0 := keep hb4 u2_0
  replace u2_1 := keep hb4 u2_1
  replace u2_2 := keep hb4 u2_2
  replace u2_3 := keep hb4 u2_3
  replace u2_4 := keep hb4 u2_4
  replace u2_5 := keep hb4 u2_5
  replace u2_6 := keep hb4 u2_6
  replace u2_7 := keep hb4 u2_7
  replace hL := hL.below hb4
  replace HB := below_call HB (Nat.le_refl _) hb4
  clear hb4
  go_wp2_with fail
  refine (same_refl 0 0 0 0 false 0 0 0 _).mono ?_
  rintro e w5 ⟨rfl, hb5⟩
  replace k0_0 := keep hb5 k0_0
  replace k0_1 := keep hb5 k0_1
  replace k0_2 := keep hb5 k0_2
  replace k0_3 := keep hb5 k0_3
  replace k0_4 := keep hb5 k0_4
  replace k0_5 := keep hb5 k0_5
  replace k0_6 := keep hb5 k0_6
  replace k0_7 := keep hb5 k0_7
  replace u1_0 := keep hb5 u1_0
  replace u1_1 := keep hb5 u1_1
  replace u1_2 := keep hb5 u1_2
  replace u1_3 := keep hb5 u1_3
  replace u1_4 := keep hb5 u1_4
  replace u1_5 := keep hb5 u1_5
  replace u1_6 := keep hb5 u1_6
  replace u1_7 := keep hb5 u1_7
  replace u2_0 := keep hb5 u2_0
  replace u2_1 := keep hb5 u2_1
  replace u2_2 := keep hb5 u2_2
  replace u2_3 := keep hb5 u2_3
  replace u2_4 := keep hb5 u2_4
  replace u2_5 := keep hb5 u2_5
  replace u2_6 := keep hb5 u2_6
  replace u2_7 := keep hb5 u2_7
  replace hL := hL.below hb5
  replace HB := below_call HB (Nat.le_refl _) hb5
  clear hb5
  go_wp2_with fail
  refine (num07_err 60 _ hL).mono ?_
  rintro e w6 ⟨rfl, hb6⟩
  replace k0_0 := keep hb6 k0_0
  replace k0_1 := keep hb6 k0_1
  replace k0_2 := keep hb6 k0_2
  replace k0_3 := keep hb6 k0_3
  replace k0_4 := keep hb6 k0_4
  replace k0_5 := keep hb6 k0_5
  replace k0_6 := keep hb6 k0_6
  replace k0_7 := keep hb6 k0_7
  replace u1_0 := keep hb6 u1_0
  replace u1_1 := keep hb6 u1_1
  replace u1_2 := keep hb6 u1_2
  replace u1_3 := keep hb6 u1_3
  replace u1_4 := keep hb6 u1_4
  replace u1_5 := keep hb6 u1_5
  replace u1_6 := keep hb6 u1_6
  replace u1_7 := keep hb6 u1_7
  replace u2_0 := keep hb6 u2_0
  replace u2_1 := keep hb6 u2_1
  replace u2_2 := keep hb6 u2_2
  replace u2_3 := keep hb6 u2_3
  replace u2_4 := keep hb6 u2_4
  replace u2_5 := keep hb6 u2_5
  replace u2_6 := keep hb6 u2_6
  replace u2_7 := keep hb6 u2_7
  replace hL := hL.below hb6
  replace HB := below_call HB (Nat.le_refl _) hb6
  clear hb6
  go_wp2_with fail
  refine (num07_nil _).mono ?_
  rintro e w7 ⟨rfl, hb7⟩
  replace k0_0 := keep hb7 k0_0
  replace k0_1 := keep hb7 k0_1
  replace k0_2 := keep hb7 k0_2
  replace k0_3 := keep hb7 k0_3
  replace k0_4 := keep hb7 k0_4
  replace k0_5 := keep hb7 k0_5
  replace k0_6 := keep hb7 k0_6
  replace k0_7 := keep hb7 k0_7
  replace u1_0 := keep hb7 u1_0
  replace u1_1 := keep hb7 u1_1
  replace u1_2 := keep hb7 u1_2
  replace u1_3 := keep hb7 u1_3
  replace u1_4 := keep hb7 u1_4
  replace u1_5 := keep hb7 u1_5
  replace u1_6 := keep hb7 u1_6
  replace u1_7 := keep hb7 u1_7
  replace u2_0 := keep hb7 u2_0
  replace u2_1 := keep hb7 u2_1
  replace u2_2 := keep hb7 u2_2
  replace u2_3 := keep hb7 u2_3
  replace u2_4 := keep hb7 u2_4
  replace u2_5 := keep hb7 u2_5
  replace u2_6 := keep hb7 u2_6
  replace u2_7 := keep hb7 u2_7
  replace hL := hL.below hb7
  replace HB := below_call HB (Nat.le_refl _) hb7
  clear hb7
  go_wp2_with fail
  refine (sure07 _).mono ?_
  rintro e w8 ⟨rfl, hb8⟩
  replace k0_0 := keep hb8 k0_0
  replace k0_1 := keep hb8 k0_1
  replace k0_2 := keep hb8 k0_2
  replace k0_3 := keep hb8 k0_3
  replace k0_4 := keep hb8 k0_4
  replace k0_5 := keep hb8 k0_5
  replace k0_6 := keep hb8 k0_6
  replace k0_7 := keep hb8 k0_7
  replace u1_0 := keep hb8 u1_0
  replace u1_1 := keep hb8 u1_1
  replace u1_2 := keep hb8 u1_2
  replace u1_3 := keep hb8 u1_3
  replace u1_4 := keep hb8 u1_4
  replace u1_5 := keep hb8 u1_5
  replace u1_6 := keep hb8 u1_6
  replace u1_7 := keep hb8 u1_7
  replace u2_0 := keep hb8 u2_0
  replace u2_1 := keep hb8 u2_1
  replace u2_2 := keep hb8 u2_2
  replace u2_3 := keep hb8 u2_3
  replace u2_4 := keep hb8 u2_4
  replace u2_5 := keep hb8 u2_5
  replace u2_6 := keep hb8 u2_6
  replace u2_7 := keep hb8 u2_7
  replace hL := hL.below hb8
  replace HB := below_call HB (Nat.le_refl _) hb8
  clear hb8
  go_wp2
  go_ret
  exact ⟨rfl, HB⟩

set_option maxHeartbeats 4000000 in
set_option maxRecDepth 100000 in
theorem cx_die (mq mp xq xp : Int) (lf st en : Int) (w : World) (hL : Laid w) (h : BV mq mp xq xp lf st en) (ht : en ≤ 1073741824) :
    Calls Tryd.prog 9 #[bud mq mp xq xp true lf st en, .int .i64 en] w fun e w' => e = .returned (.bool true) ∧ Below w.heap.size w w' := by
  have g1 : st ≤ en := (by have := h.2.2.2.2.2.2; have := h.1.lo; have := h.1.le; omega)
  have HB : Below w.heap.size w (w.alloc (.cells #[.int .i64 mq, .int .i64 mp, .int .i64 xq, .int .i64 xp, .bool true, .int .i64 lf, .int .i64 st, .int .i64 en] 30)) := ((Below.refl _ w).alloc (by simp) _)
  have k0_0 : (w.alloc (.cells #[.int .i64 mq, .int .i64 mp, .int .i64 xq, .int .i64 xp, .bool true, .int .i64 lf, .int .i64 st, .int .i64 en] 30)).cell? ⟨w.heap.size, 0, none⟩ = some (.int .i64 mq) := by simp
  have k0_1 : (w.alloc (.cells #[.int .i64 mq, .int .i64 mp, .int .i64 xq, .int .i64 xp, .bool true, .int .i64 lf, .int .i64 st, .int .i64 en] 30)).cell? ⟨w.heap.size, 1, none⟩ = some (.int .i64 mp) := by simp
  have k0_2 : (w.alloc (.cells #[.int .i64 mq, .int .i64 mp, .int .i64 xq, .int .i64 xp, .bool true, .int .i64 lf, .int .i64 st, .int .i64 en] 30)).cell? ⟨w.heap.size, 2, none⟩ = some (.int .i64 xq) := by simp
  have k0_3 : (w.alloc (.cells #[.int .i64 mq, .int .i64 mp, .int .i64 xq, .int .i64 xp, .bool true, .int .i64 lf, .int .i64 st, .int .i64 en] 30)).cell? ⟨w.heap.size, 3, none⟩ = some (.int .i64 xp) := by simp
  have k0_4 : (w.alloc (.cells #[.int .i64 mq, .int .i64 mp, .int .i64 xq, .int .i64 xp, .bool true, .int .i64 lf, .int .i64 st, .int .i64 en] 30)).cell? ⟨w.heap.size, 4, none⟩ = some (.bool true) := by simp
  have k0_5 : (w.alloc (.cells #[.int .i64 mq, .int .i64 mp, .int .i64 xq, .int .i64 xp, .bool true, .int .i64 lf, .int .i64 st, .int .i64 en] 30)).cell? ⟨w.heap.size, 5, none⟩ = some (.int .i64 lf) := by simp
  have k0_6 : (w.alloc (.cells #[.int .i64 mq, .int .i64 mp, .int .i64 xq, .int .i64 xp, .bool true, .int .i64 lf, .int .i64 st, .int .i64 en] 30)).cell? ⟨w.heap.size, 6, none⟩ = some (.int .i64 st) := by simp
  have k0_7 : (w.alloc (.cells #[.int .i64 mq, .int .i64 mp, .int .i64 xq, .int .i64 xp, .bool true, .int .i64 lf, .int .i64 st, .int .i64 en] 30)).cell? ⟨w.heap.size, 7, none⟩ = some (.int .i64 en) := by simp
  replace hL : Laid (w.alloc (.cells #[.int .i64 mq, .int .i64 mp, .int .i64 xq, .int .i64 xp, .bool true, .int .i64 lf, .int .i64 st, .int .i64 en] 30)) := hL.alloc _
  go_enter Tryd.func9, Tryd.ntmps9
  go_wp2_with fail
  refine (bcr_die mq mp xq xp lf st en _ h ht).mono ?_
  rintro e w1 ⟨rfl, hb1⟩
  replace k0_0 := keep hb1 k0_0
  replace k0_1 := keep hb1 k0_1
  replace k0_2 := keep hb1 k0_2
  replace k0_3 := keep hb1 k0_3
  replace k0_4 := keep hb1 k0_4
  replace k0_5 := keep hb1 k0_5
  replace k0_6 := keep hb1 k0_6
  replace k0_7 := keep hb1 k0_7
  replace hL := hL.below hb1
  replace HB := below_call HB (Nat.le_refl _) hb1
  clear hb1
  have hbA : Below w1.heap.size w1 (w1.alloc (.cells #[.int .i64 0, .int .i64 0, .int .i64 0, .int .i64 0, .bool false, .int .i64 0, .int .i64 0, .int .i64 0] 25)) := (Below.refl _ _).alloc (Nat.le_refl _) _
  replace k0_0 := keep hbA k0_0
  replace k0_1 := keep hbA k0_1
  replace k0_2 := keep hbA k0_2
  replace k0_3 := keep hbA k0_3
  replace k0_4 := keep hbA k0_4
  replace k0_5 := keep hbA k0_5
  replace k0_6 := keep hbA k0_6
  replace k0_7 := keep hbA k0_7
  replace hL := hL.below hbA
  replace HB := below_call HB (Nat.le_refl _) hbA
  clear hbA
  have u1_0 : (w1.alloc (.cells #[.int .i64 0, .int .i64 0, .int .i64 0, .int .i64 0, .bool false, .int .i64 0, .int .i64 0, .int .i64 0] 25)).cell? ⟨w1.heap.size, 0, none⟩ = some (.int .i64 0) := by simp
  have u1_1 : (w1.alloc (.cells #[.int .i64 0, .int .i64 0, .int .i64 0, .int .i64 0, .bool false, .int .i64 0, .int .i64 0, .int .i64 0] 25)).cell? ⟨w1.heap.size, 1, none⟩ = some (.int .i64 0) := by simp
  have u1_2 : (w1.alloc (.cells #[.int .i64 0, .int .i64 0, .int .i64 0, .int .i64 0, .bool false, .int .i64 0, .int .i64 0, .int .i64 0] 25)).cell? ⟨w1.heap.size, 2, none⟩ = some (.int .i64 0) := by simp
  have u1_3 : (w1.alloc (.cells #[.int .i64 0, .int .i64 0, .int .i64 0, .int .i64 0, .bool false, .int .i64 0, .int .i64 0, .int .i64 0] 25)).cell? ⟨w1.heap.size, 3, none⟩ = some (.int .i64 0) := by simp
  have u1_4 : (w1.alloc (.cells #[.int .i64 0, .int .i64 0, .int .i64 0, .int .i64 0, .bool false, .int .i64 0, .int .i64 0, .int .i64 0] 25)).cell? ⟨w1.heap.size, 4, none⟩ = some (.bool false) := by simp
  have u1_5 : (w1.alloc (.cells #[.int .i64 0, .int .i64 0, .int .i64 0, .int .i64 0, .bool false, .int .i64 0, .int .i64 0, .int .i64 0] 25)).cell? ⟨w1.heap.size, 5, none⟩ = some (.int .i64 0) := by simp
  have u1_6 : (w1.alloc (.cells #[.int .i64 0, .int .i64 0, .int .i64 0, .int .i64 0, .bool false, .int .i64 0, .int .i64 0, .int .i64 0] 25)).cell? ⟨w1.heap.size, 6, none⟩ = some (.int .i64 0) := by simp
  have u1_7 : (w1.alloc (.cells #[.int .i64 0, .int .i64 0, .int .i64 0, .int .i64 0, .bool false, .int .i64 0, .int .i64 0, .int .i64 0] 25)).cell? ⟨w1.heap.size, 7, none⟩ = some (.int .i64 0) := by simp
  go_wp2_with fail
  refine (rcr_die mq mp xq xp lf st en _ h ht).mono ?_
  rintro e w2 ⟨rfl, hb2⟩
  replace k0_0 := keep hb2 k0_0
  replace k0_1 := keep hb2 k0_1
  replace k0_2 := keep hb2 k0_2
  replace k0_3 := keep hb2 k0_3
  replace k0_4 := keep hb2 k0_4
  replace k0_5 := keep hb2 k0_5
  replace k0_6 := keep hb2 k0_6
  replace k0_7 := keep hb2 k0_7
  replace u1_0 := keep hb2 u1_0
  replace u1_1 := keep hb2 u1_1
  replace u1_2 := keep hb2 u1_2
  replace u1_3 := keep hb2 u1_3
  replace u1_4 := keep hb2 u1_4
  replace u1_5 := keep hb2 u1_5
  replace u1_6 := keep hb2 u1_6
  replace u1_7 := keep hb2 u1_7
  replace hL := hL.below hb2
  replace HB := below_call HB (Nat.le_refl _) hb2
  clear hb2
  have hbA : Below w2.heap.size w2 (w2.alloc (.cells #[.int .i64 0, .int .i64 0, .int .i64 0, .int .i64 0, .bool false, .int .i64 0, .int .i64 0, .int .i64 0] 30)) := (Below.refl _ _).alloc (Nat.le_refl _) _
  replace k0_0 := keep hbA k0_0
  replace k0_1 := keep hbA k0_1
  replace k0_2 := keep hbA k0_2
  replace k0_3 := keep hbA k0_3
  replace k0_4 := keep hbA k0_4
  replace k0_5 := keep hbA k0_5
  replace k0_6 := keep hbA k0_6
  replace k0_7 := keep hbA k0_7
  replace u1_0 := keep hbA u1_0
  replace u1_1 := keep hbA u1_1
  replace u1_2 := keep hbA u1_2
  replace u1_3 := keep hbA u1_3
  replace u1_4 := keep hbA u1_4
  replace u1_5 := keep hbA u1_5
  replace u1_6 := keep hbA u1_6
  replace u1_7 := keep hbA u1_7
  replace hL := hL.below hbA
  replace HB := below_call HB (Nat.le_refl _) hbA
  clear hbA
  have u2_0 : (w2.alloc (.cells #[.int .i64 0, .int .i64 0, .int .i64 0, .int .i64 0, .bool false, .int .i64 0, .int .i64 0, .int .i64 0] 30)).cell? ⟨w2.heap.size, 0, none⟩ = some (.int .i64 0) := by simp
  have u2_1 : (w2.alloc (.cells #[.int .i64 0, .int .i64 0, .int .i64 0, .int .i64 0, .bool false, .int .i64 0, .int .i64 0, .int .i64 0] 30)).cell? ⟨w2.heap.size, 1, none⟩ = some (.int .i64 0) := by simp
  have u2_2 : (w2.alloc (.cells #[.int .i64 0, .int .i64 0, .int .i64 0, .int .i64 0, .bool false, .int .i64 0, .int .i64 0, .int .i64 0] 30)).cell? ⟨w2.heap.size, 2, none⟩ = some (.int .i64 0) := by simp
  have u2_3 : (w2.alloc (.cells #[.int .i64 0, .int .i64 0, .int .i64 0, .int .i64 0, .bool false, .int .i64 0, .int .i64 0, .int .i64 0] 30)).cell? ⟨w2.heap.size, 3, none⟩ = some (.int .i64 0) := by simp
  have u2_4 : (w2.alloc (.cells #[.int .i64 0, .int .i64 0, .int .i64 0, .int .i64 0, .bool false, .int .i64 0, .int .i64 0, .int .i64 0] 30)).cell? ⟨w2.heap.size, 4, none⟩ = some (.bool false) := by simp
  have u2_5 : (w2.alloc (.cells #[.int .i64 0, .int .i64 0, .int .i64 0, .int .i64 0, .bool false, .int .i64 0, .int .i64 0, .int .i64 0] 30)).cell? ⟨w2.heap.size, 5, none⟩ = some (.int .i64 0) := by simp
  have u2_6 : (w2.alloc (.cells #[.int .i64 0, .int .i64 0, .int .i64 0, .int .i64 0, .bool false, .int .i64 0, .int .i64 0, .int .i64 0] 30)).cell? ⟨w2.heap.size, 6, none⟩ = some (.int .i64 0) := by simp
  have u2_7 : (w2.alloc (.cells #[.int .i64 0, .int .i64 0, .int .i64 0, .int .i64 0, .bool false, .int .i64 0, .int .i64 0, .int .i64 0] 30)).cell? ⟨w2.heap.size, 7, none⟩ = some (.int .i64 0) := by simp
  go_wp2_with fail
  refine (fair_ok mq mp xq xp true lf st en en _ h (by omega) (by omega)).mono ?_
  rintro e w3 ⟨rfl, hb3⟩
  replace k0_0 := keep hb3 k0_0
  replace k0_1 := keep hb3 k0_1
  replace k0_2 := keep hb3 k0_2
  replace k0_3 := keep hb3 k0_3
  replace k0_4 := keep hb3 k0_4
  replace k0_5 := keep hb3 k0_5
  replace k0_6 := keep hb3 k0_6
  replace k0_7 := keep hb3 k0_7
  replace u1_0 := keep hb3 u1_0
  replace u1_1 := keep hb3 u1_1
  replace u1_2 := keep hb3 u1_2
  replace u1_3 := keep hb3 u1_3
  replace u1_4 := keep hb3 u1_4
  replace u1_5 := keep hb3 u1_5
  replace u1_6 := keep hb3 u1_6
  replace u1_7 := keep hb3 u1_7
  replace u2_0 := keep hb3 u2_0
  replace u2_1 := keep hb3 u2_1
  replace u2_2 := keep hb3 u2_2
  replace u2_3 := keep hb3 u2_3
  replace u2_4 := keep hb3 u2_4
  replace u2_5 := keep hb3 u2_5
  replace u2_6 := keep hb3 u2_6
  replace u2_7 := keep hb3 u2_7
  replace hL := hL.below hb3
  replace HB := below_call HB (Nat.le_refl _) hb3
  clear hb3
  go_wp2_with fail
  refine (rfair_ok mq mp xq xp true lf st en en _ h (by omega) (by omega)).mono ?_
  rintro e w4 ⟨rfl, hb4⟩
  replace k0_0 := keep hb4 k0_0
  replace k0_1 := keep hb4 k0_1
  replace k0_2 := keep hb4 k0_2
  replace k0_3 := keep hb4 k0_3
  replace k0_4 := keep hb4 k0_4
  replace k0_5 := keep hb4 k0_5
  replace k0_6 := keep hb4 k0_6
  replace k0_7 := keep hb4 k0_7
  replace u1_0 := keep hb4 u1_0
  replace u1_1 := keep hb4 u1_1
  replace u1_2 := keep hb4 u1_2
  replace u1_3 := keep hb4 u1_3
  replace u1_4 := keep hb4 u1_4
  replace u1_5 := keep hb4 u1_5
  replace u1_6 := keep hb4 u1_6
  replace u1_7 := keep hb4 u1_7
  replace u2_0 := keep hb4 u2_0
  replace u2_1 := keep hb4 u2_1
  replace u2_2 := keep hb4 u2_2
  replace u2_3 := keep hb4 u2_3
  replace u2_4 := keep hb4 u2_4
  replace u2_5 := keep hb4 u2_5
  replace u2_6 := keep hb4 u2_6
  replace u2_7 := keep hb4 u2_7
  replace hL := hL.below hb4
  replace HB := below_call HB (Nat.le_refl _) hb4
  clear hb4
  go_wp2_with fail
  refine (same_refl 0 0 0 0 false 0 0 0 _).mono ?_
  rintro e w5 ⟨rfl, hb5⟩
  replace k0_0 := keep hb5 k0_0
  replace k0_1 := keep hb5 k0_1
  replace k0_2 := keep hb5 k0_2
  replace k0_3 := keep hb5 k0_3
  replace k0_4 := keep hb5 k0_4
  replace k0_5 := keep hb5 k0_5
  replace k0_6 := keep hb5 k0_6
  replace k0_7 := keep hb5 k0_7
  replace u1_0 := keep hb5 u1_0
  replace u1_1 := keep hb5 u1_1
  replace u1_2 := keep hb5 u1_2
  replace u1_3 := keep hb5 u1_3
  replace u1_4 := keep hb5 u1_4
  replace u1_5 := keep hb5 u1_5
  replace u1_6 := keep hb5 u1_6
  replace u1_7 := keep hb5 u1_7
  replace u2_0 := keep hb5 u2_0
  replace u2_1 := keep hb5 u2_1
  replace u2_2 := keep hb5 u2_2
  replace u2_3 := keep hb5 u2_3
  replace u2_4 := keep hb5 u2_4
  replace u2_5 := keep hb5 u2_5
  replace u2_6 := keep hb5 u2_6
  replace u2_7 := keep hb5 u2_7
  replace hL := hL.below hb5
  replace HB := below_call HB (Nat.le_refl _) hb5
  clear hb5
  go_wp2_with fail
  refine (num07_nil _).mono ?_
  rintro e w6 ⟨rfl, hb6⟩
  replace k0_0 := keep hb6 k0_0
  replace k0_1 := keep hb6 k0_1
  replace k0_2 := keep hb6 k0_2
  replace k0_3 := keep hb6 k0_3
  replace k0_4 := keep hb6 k0_4
  replace k0_5 := keep hb6 k0_5
  replace k0_6 := keep hb6 k0_6
  replace k0_7 := keep hb6 k0_7
  replace u1_0 := keep hb6 u1_0
  replace u1_1 := keep hb6 u1_1
  replace u1_2 := keep hb6 u1_2
  replace u1_3 := keep hb6 u1_3
  replace u1_4 := keep hb6 u1_4
  replace u1_5 := keep hb6 u1_5
  replace u1_6 := keep hb6 u1_6
  replace u1_7 := keep hb6 u1_7
  replace u2_0 := keep hb6 u2_0
  replace u2_1 := keep hb6 u2_1
  replace u2_2 := keep hb6 u2_2
  replace u2_3 := keep hb6 u2_3
  replace u2_4 := keep hb6 u2_4
  replace u2_5 := keep hb6 u2_5
  replace u2_6 := keep hb6 u2_6
  replace u2_7 := keep hb6 u2_7
  replace hL := hL.below hb6
  replace HB := below_call HB (Nat.le_refl _) hb6
  clear hb6
  go_wp2_with fail
  refine (num07_nil _).mono ?_
  rintro e w7 ⟨rfl, hb7⟩
  replace k0_0 := keep hb7 k0_0
  replace k0_1 := keep hb7 k0_1
  replace k0_2 := keep hb7 k0_2
  replace k0_3 := keep hb7 k0_3
  replace k0_4 := keep hb7 k0_4
  replace k0_5 := keep hb7 k0_5
  replace k0_6 := keep hb7 k0_6
  replace k0_7 := keep hb7 k0_7
  replace u1_0 := keep hb7 u1_0
  replace u1_1 := keep hb7 u1_1
  replace u1_2 := keep hb7 u1_2
  replace u1_3 := keep hb7 u1_3
  replace u1_4 := keep hb7 u1_4
  replace u1_5 := keep hb7 u1_5
  replace u1_6 := keep hb7 u1_6
  replace u1_7 := keep hb7 u1_7
  replace u2_0 := keep hb7 u2_0
  replace u2_1 := keep hb7 u2_1
  replace u2_2 := keep hb7 u2_2
  replace u2_3 := keep hb7 u2_3
  replace u2_4 := keep hb7 u2_4
  replace u2_5 := keep hb7 u2_5
  replace u2_6 := keep hb7 u2_6
  replace u2_7 := keep hb7 u2_7
  replace hL := hL.below hb7
  replace HB := below_call HB (Nat.le_refl _) hb7
  clear hb7
  go_wp2_with fail
  refine (sure07 _).mono ?_
  rintro e w8 ⟨rfl, hb8⟩
  replace k0_0 := keep hb8 k0_0
  replace k0_1 := keep hb8 k0_1
  replace k0_2 := keep hb8 k0_2
  replace k0_3 := keep hb8 k0_3
  replace k0_4 := keep hb8 k0_4
  replace k0_5 := keep hb8 k0_5
  replace k0_6 := keep hb8 k0_6
  replace k0_7 := keep hb8 k0_7
  replace u1_0 := keep hb8 u1_0
  replace u1_1 := keep hb8 u1_1
  replace u1_2 := keep hb8 u1_2
  replace u1_3 := keep hb8 u1_3
  replace u1_4 := keep hb8 u1_4
  replace u1_5 := keep hb8 u1_5
  replace u1_6 := keep hb8 u1_6
  replace u1_7 := keep hb8 u1_7
  replace u2_0 := keep hb8 u2_0
  replace u2_1 := keep hb8 u2_1
  replace u2_2 := keep hb8 u2_2
  replace u2_3 := keep hb8 u2_3
  replace u2_4 := keep hb8 u2_4
  replace u2_5 := keep hb8 u2_5
  replace u2_6 := keep hb8 u2_6
  replace u2_7 := keep hb8 u2_7
  replace hL := hL.below hb8
  replace HB := below_call HB (Nat.le_refl _) hb8
  clear hb8
  go_wp2
  go_ret
  exact ⟨rfl, HB⟩

set_option maxHeartbeats 4000000 in
set_option maxRecDepth 100000 in
theorem cx_same (mq mp : Int) (lf st en : Int) (w : World) (hL : Laid w) (h : BV mq mp 0 0 lf st en) (ht : en ≤ 1073741824) :
    Calls Tryd.prog 9 #[bud mq mp 0 0 false lf st en, .int .i64 en] w fun e w' => e = .returned (.bool true) ∧ Below w.heap.size w w' := by
  have g1 : st ≤ en := (by have := h.2.2.2.2.2.2; have := h.1.lo; have := h.1.le; omega)
  have HB : Below w.heap.size w (w.alloc (.cells #[.int .i64 mq, .int .i64 mp, .int .i64 0, .int .i64 0, .bool false, .int .i64 lf, .int .i64 st, .int .i64 en] 30)) := ((Below.refl _ w).alloc (by simp) _)
  have k0_0 : (w.alloc (.cells #[.int .i64 mq, .int .i64 mp, .int .i64 0, .int .i64 0, .bool false, .int .i64 lf, .int .i64 st, .int .i64 en] 30)).cell? ⟨w.heap.size, 0, none⟩ = some (.int .i64 mq) := by simp
  have k0_1 : (w.alloc (.cells #[.int .i64 mq, .int .i64 mp, .int .i64 0, .int .i64 0, .bool false, .int .i64 lf, .int .i64 st, .int .i64 en] 30)).cell? ⟨w.heap.size, 1, none⟩ = some (.int .i64 mp) := by simp
  have k0_2 : (w.alloc (.cells #[.int .i64 mq, .int .i64 mp, .int .i64 0, .int .i64 0, .bool false, .int .i64 lf, .int .i64 st, .int .i64 en] 30)).cell? ⟨w.heap.size, 2, none⟩ = some (.int .i64 0) := by simp
  have k0_3 : (w.alloc (.cells #[.int .i64 mq, .int .i64 mp, .int .i64 0, .int .i64 0, .bool false, .int .i64 lf, .int .i64 st, .int .i64 en] 30)).cell? ⟨w.heap.size, 3, none⟩ = some (.int .i64 0) := by simp
  have k0_4 : (w.alloc (.cells #[.int .i64 mq, .int .i64 mp, .int .i64 0, .int .i64 0, .bool false, .int .i64 lf, .int .i64 st, .int .i64 en] 30)).cell? ⟨w.heap.size, 4, none⟩ = some (.bool false) := by simp
  have k0_5 : (w.alloc (.cells #[.int .i64 mq, .int .i64 mp, .int .i64 0, .int .i64 0, .bool false, .int .i64 lf, .int .i64 st, .int .i64 en] 30)).cell? ⟨w.heap.size, 5, none⟩ = some (.int .i64 lf) := by simp
  have k0_6 : (w.alloc (.cells #[.int .i64 mq, .int .i64 mp, .int .i64 0, .int .i64 0, .bool false, .int .i64 lf, .int .i64 st, .int .i64 en] 30)).cell? ⟨w.heap.size, 6, none⟩ = some (.int .i64 st) := by simp
  have k0_7 : (w.alloc (.cells #[.int .i64 mq, .int .i64 mp, .int .i64 0, .int .i64 0, .bool false, .int .i64 lf, .int .i64 st, .int .i64 en] 30)).cell? ⟨w.heap.size, 7, none⟩ = some (.int .i64 en) := by simp
  replace hL : Laid (w.alloc (.cells #[.int .i64 mq, .int .i64 mp, .int .i64 0, .int .i64 0, .bool false, .int .i64 lf, .int .i64 st, .int .i64 en] 30)) := hL.alloc _
  go_enter Tryd.func9, Tryd.ntmps9
  go_wp2_with fail
  refine (bcr_same mq mp lf st en _ h ht).mono ?_
  rintro e w1 ⟨rfl, hb1⟩
  replace k0_0 := keep hb1 k0_0
  replace k0_1 := keep hb1 k0_1
  replace k0_2 := keep hb1 k0_2
  replace k0_3 := keep hb1 k0_3
  replace k0_4 := keep hb1 k0_4
  replace k0_5 := keep hb1 k0_5
  replace k0_6 := keep hb1 k0_6
  replace k0_7 := keep hb1 k0_7
  replace hL := hL.below hb1
  replace HB := below_call HB (Nat.le_refl _) hb1
  clear hb1
  have hbA : Below w1.heap.size w1 (w1.alloc (.cells #[.int .i64 mq, .int .i64 mp, .int .i64 0, .int .i64 0, .bool false, .int .i64 mq, .int .i64 en, .int .i64 (en + mp)] 25)) := (Below.refl _ _).alloc (Nat.le_refl _) _
  replace k0_0 := keep hbA k0_0
  replace k0_1 := keep hbA k0_1
  replace k0_2 := keep hbA k0_2
  replace k0_3 := keep hbA k0_3
  replace k0_4 := keep hbA k0_4
  replace k0_5 := keep hbA k0_5
  replace k0_6 := keep hbA k0_6
  replace k0_7 := keep hbA k0_7
  replace hL := hL.below hbA
  replace HB := below_call HB (Nat.le_refl _) hbA
  clear hbA
  have u1_0 : (w1.alloc (.cells #[.int .i64 mq, .int .i64 mp, .int .i64 0, .int .i64 0, .bool false, .int .i64 mq, .int .i64 en, .int .i64 (en + mp)] 25)).cell? ⟨w1.heap.size, 0, none⟩ = some (.int .i64 mq) := by simp
  have u1_1 : (w1.alloc (.cells #[.int .i64 mq, .int .i64 mp, .int .i64 0, .int .i64 0, .bool false, .int .i64 mq, .int .i64 en, .int .i64 (en + mp)] 25)).cell? ⟨w1.heap.size, 1, none⟩ = some (.int .i64 mp) := by simp
  have u1_2 : (w1.alloc (.cells #[.int .i64 mq, .int .i64 mp, .int .i64 0, .int .i64 0, .bool false, .int .i64 mq, .int .i64 en, .int .i64 (en + mp)] 25)).cell? ⟨w1.heap.size, 2, none⟩ = some (.int .i64 0) := by simp
  have u1_3 : (w1.alloc (.cells #[.int .i64 mq, .int .i64 mp, .int .i64 0, .int .i64 0, .bool false, .int .i64 mq, .int .i64 en, .int .i64 (en + mp)] 25)).cell? ⟨w1.heap.size, 3, none⟩ = some (.int .i64 0) := by simp
  have u1_4 : (w1.alloc (.cells #[.int .i64 mq, .int .i64 mp, .int .i64 0, .int .i64 0, .bool false, .int .i64 mq, .int .i64 en, .int .i64 (en + mp)] 25)).cell? ⟨w1.heap.size, 4, none⟩ = some (.bool false) := by simp
  have u1_5 : (w1.alloc (.cells #[.int .i64 mq, .int .i64 mp, .int .i64 0, .int .i64 0, .bool false, .int .i64 mq, .int .i64 en, .int .i64 (en + mp)] 25)).cell? ⟨w1.heap.size, 5, none⟩ = some (.int .i64 mq) := by simp
  have u1_6 : (w1.alloc (.cells #[.int .i64 mq, .int .i64 mp, .int .i64 0, .int .i64 0, .bool false, .int .i64 mq, .int .i64 en, .int .i64 (en + mp)] 25)).cell? ⟨w1.heap.size, 6, none⟩ = some (.int .i64 en) := by simp
  have u1_7 : (w1.alloc (.cells #[.int .i64 mq, .int .i64 mp, .int .i64 0, .int .i64 0, .bool false, .int .i64 mq, .int .i64 en, .int .i64 (en + mp)] 25)).cell? ⟨w1.heap.size, 7, none⟩ = some (.int .i64 (en + mp)) := by simp
  go_wp2_with fail
  refine (rcr_same mq mp lf st en _ h ht).mono ?_
  rintro e w2 ⟨rfl, hb2⟩
  replace k0_0 := keep hb2 k0_0
  replace k0_1 := keep hb2 k0_1
  replace k0_2 := keep hb2 k0_2
  replace k0_3 := keep hb2 k0_3
  replace k0_4 := keep hb2 k0_4
  replace k0_5 := keep hb2 k0_5
  replace k0_6 := keep hb2 k0_6
  replace k0_7 := keep hb2 k0_7
  replace u1_0 := keep hb2 u1_0
  replace u1_1 := keep hb2 u1_1
  replace u1_2 := keep hb2 u1_2
  replace u1_3 := keep hb2 u1_3
  replace u1_4 := keep hb2 u1_4
  replace u1_5 := keep hb2 u1_5
  replace u1_6 := keep hb2 u1_6
  replace u1_7 := keep hb2 u1_7
  replace hL := hL.below hb2
  replace HB := below_call HB (Nat.le_refl _) hb2
  clear hb2
  have hbA : Below w2.heap.size w2 (w2.alloc (.cells #[.int .i64 mq, .int .i64 mp, .int .i64 0, .int .i64 0, .bool false, .int .i64 mq, .int .i64 en, .int .i64 (en + mp)] 30)) := (Below.refl _ _).alloc (Nat.le_refl _) _
  replace k0_0 := keep hbA k0_0
  replace k0_1 := keep hbA k0_1
  replace k0_2 := keep hbA k0_2
  replace k0_3 := keep hbA k0_3
  replace k0_4 := keep hbA k0_4
  replace k0_5 := keep hbA k0_5
  replace k0_6 := keep hbA k0_6
  replace k0_7 := keep hbA k0_7
  replace u1_0 := keep hbA u1_0
  replace u1_1 := keep hbA u1_1
  replace u1_2 := keep hbA u1_2
  replace u1_3 := keep hbA u1_3
  replace u1_4 := keep hbA u1_4
  replace u1_5 := keep hbA u1_5
  replace u1_6 := keep hbA u1_6
  replace u1_7 := keep hbA u1_7
  replace hL := hL.below hbA
  replace HB := below_call HB (Nat.le_refl _) hbA
  clear hbA
  have u2_0 : (w2.alloc (.cells #[.int .i64 mq, .int .i64 mp, .int .i64 0, .int .i64 0, .bool false, .int .i64 mq, .int .i64 en, .int .i64 (en + mp)] 30)).cell? ⟨w2.heap.size, 0, none⟩ = some (.int .i64 mq) := by simp
  have u2_1 : (w2.alloc (.cells #[.int .i64 mq, .int .i64 mp, .int .i64 0, .int .i64 0, .bool false, .int .i64 mq, .int .i64 en, .int .i64 (en + mp)] 30)).cell? ⟨w2.heap.size, 1, none⟩ = some (.int .i64 mp) := by simp
  have u2_2 : (w2.alloc (.cells #[.int .i64 mq, .int .i64 mp, .int .i64 0, .int .i64 0, .bool false, .int .i64 mq, .int .i64 en, .int .i64 (en + mp)] 30)).cell? ⟨w2.heap.size, 2, none⟩ = some (.int .i64 0) := by simp
  have u2_3 : (w2.alloc (.cells #[.int .i64 mq, .int .i64 mp, .int .i64 0, .int .i64 0, .bool false, .int .i64 mq, .int .i64 en, .int .i64 (en + mp)] 30)).cell? ⟨w2.heap.size, 3, none⟩ = some (.int .i64 0) := by simp
  have u2_4 : (w2.alloc (.cells #[.int .i64 mq, .int .i64 mp, .int .i64 0, .int .i64 0, .bool false, .int .i64 mq, .int .i64 en, .int .i64 (en + mp)] 30)).cell? ⟨w2.heap.size, 4, none⟩ = some (.bool false) := by simp
  have u2_5 : (w2.alloc (.cells #[.int .i64 mq, .int .i64 mp, .int .i64 0, .int .i64 0, .bool false, .int .i64 mq, .int .i64 en, .int .i64 (en + mp)] 30)).cell? ⟨w2.heap.size, 5, none⟩ = some (.int .i64 mq) := by simp
  have u2_6 : (w2.alloc (.cells #[.int .i64 mq, .int .i64 mp, .int .i64 0, .int .i64 0, .bool false, .int .i64 mq, .int .i64 en, .int .i64 (en + mp)] 30)).cell? ⟨w2.heap.size, 6, none⟩ = some (.int .i64 en) := by simp
  have u2_7 : (w2.alloc (.cells #[.int .i64 mq, .int .i64 mp, .int .i64 0, .int .i64 0, .bool false, .int .i64 mq, .int .i64 en, .int .i64 (en + mp)] 30)).cell? ⟨w2.heap.size, 7, none⟩ = some (.int .i64 (en + mp)) := by simp
  go_wp2_with fail
  refine (fair_ok mq mp 0 0 false lf st en en _ h (by omega) (by omega)).mono ?_
  rintro e w3 ⟨rfl, hb3⟩
  replace k0_0 := keep hb3 k0_0
  replace k0_1 := keep hb3 k0_1
  replace k0_2 := keep hb3 k0_2
  replace k0_3 := keep hb3 k0_3
  replace k0_4 := keep hb3 k0_4
  replace k0_5 := keep hb3 k0_5
  replace k0_6 := keep hb3 k0_6
  replace k0_7 := keep hb3 k0_7
  replace u1_0 := keep hb3 u1_0
  replace u1_1 := keep hb3 u1_1
  replace u1_2 := keep hb3 u1_2
  replace u1_3 := keep hb3 u1_3
  replace u1_4 := keep hb3 u1_4
  replace u1_5 := keep hb3 u1_5
  replace u1_6 := keep hb3 u1_6
  replace u1_7 := keep hb3 u1_7
  replace u2_0 := keep hb3 u2_0
  replace u2_1 := keep hb3 u2_1
  replace u2_2 := keep hb3 u2_2
  replace u2_3 := keep hb3 u2_3
  replace u2_4 := keep hb3 u2_4
  replace u2_5 := keep hb3 u2_5
  replace u2_6 := keep hb3 u2_6
  replace u2_7 := keep hb3 u2_7
  replace hL := hL.below hb3
  replace HB := below_call HB (Nat.le_refl _) hb3
  clear hb3
  go_wp2_with fail
  refine (rfair_ok mq mp 0 0 false lf st en en _ h (by omega) (by omega)).mono ?_
  rintro e w4 ⟨rfl, hb4⟩
  replace k0_0 := keep hb4 k0_0
  replace k0_1 := keep hb4 k0_1
  replace k0_2 := keep hb4 k0_2
  replace k0_3 := keep hb4 k0_3
  replace k0_4 := keep hb4 k0_4
  replace k0_5 := keep hb4 k0_5
  replace k0_6 := keep hb4 k0_6
  replace k0_7 := keep hb4 k0_7
  replace u1_0 := keep hb4 u1_0
  replace u1_1 := keep hb4 u1_1
  replace u1_2 := keep hb4 u1_2
  replace u1_3 := keep hb4 u1_3
  replace u1_4 := keep hb4 u1_4
  replace u1_5 := keep hb4 u1_5
  replace u1_6 := keep hb4 u1_6
  replace u1_7 := keep hb4 u1_7
  replace u2_0 := keep hb4 u2_0
  replace u2_1 := keep hb4 u2_1
  replace u2_2 := keep hb4 u2_2
  replace u2_3 := keep hb4 u2_3
  replace u2_4 := keep hb4 u2_4
  replace u2_5 := keep hb4 u2_5
  replace u2_6 := keep hb4 u2_6
  replace u2_7 := keep hb4 u2_7
  replace hL := hL.below hb4
  replace HB := below_call HB (Nat.le_refl _) hb4
  clear hb4
  go_wp2_with fail
  refine (same_refl mq mp 0 0 false mq en (en + mp) _).mono ?_
  rintro e w5 ⟨rfl, hb5⟩
  replace k0_0 := keep hb5 k0_0
  replace k0_1 := keep hb5 k0_1
  replace k0_2 := keep hb5 k0_2
  replace k0_3 := keep hb5 k0_3
  replace k0_4 := keep hb5 k0_4
  replace k0_5 := keep hb5 k0_5
  replace k0_6 := keep hb5 k0_6
  replace k0_7 := keep hb5 k0_7
  replace u1_0 := keep hb5 u1_0
  replace u1_1 := keep hb5 u1_1
  replace u1_2 := keep hb5 u1_2
  replace u1_3 := keep hb5 u1_3
  replace u1_4 := keep hb5 u1_4
  replace u1_5 := keep hb5 u1_5
  replace u1_6 := keep hb5 u1_6
  replace u1_7 := keep hb5 u1_7
  replace u2_0 := keep hb5 u2_0
  replace u2_1 := keep hb5 u2_1
  replace u2_2 := keep hb5 u2_2
  replace u2_3 := keep hb5 u2_3
  replace u2_4 := keep hb5 u2_4
  replace u2_5 := keep hb5 u2_5
  replace u2_6 := keep hb5 u2_6
  replace u2_7 := keep hb5 u2_7
  replace hL := hL.below hb5
  replace HB := below_call HB (Nat.le_refl _) hb5
  clear hb5
  go_wp2_with fail
  refine (num07_nil _).mono ?_
  rintro e w6 ⟨rfl, hb6⟩
  replace k0_0 := keep hb6 k0_0
  replace k0_1 := keep hb6 k0_1
  replace k0_2 := keep hb6 k0_2
  replace k0_3 := keep hb6 k0_3
  replace k0_4 := keep hb6 k0_4
  replace k0_5 := keep hb6 k0_5
  replace k0_6 := keep hb6 k0_6
  replace k0_7 := keep hb6 k0_7
  replace u1_0 := keep hb6 u1_0
  replace u1_1 := keep hb6 u1_1
  replace u1_2 := keep hb6 u1_2
  replace u1_3 := keep hb6 u1_3
  replace u1_4 := keep hb6 u1_4
  replace u1_5 := keep hb6 u1_5
  replace u1_6 := keep hb6 u1_6
  replace u1_7 := keep hb6 u1_7
  replace u2_0 := keep hb6 u2_0
  replace u2_1 := keep hb6 u2_1
  replace u2_2 := keep hb6 u2_2
  replace u2_3 := keep hb6 u2_3
  replace u2_4 := keep hb6 u2_4
  replace u2_5 := keep hb6 u2_5
  replace u2_6 := keep hb6 u2_6
  replace u2_7 := keep hb6 u2_7
  replace hL := hL.below hb6
  replace HB := below_call HB (Nat.le_refl _) hb6
  clear hb6
  go_wp2_with fail
  refine (num07_nil _).mono ?_
  rintro e w7 ⟨rfl, hb7⟩
  replace k0_0 := keep hb7 k0_0
  replace k0_1 := keep hb7 k0_1
  replace k0_2 := keep hb7 k0_2
  replace k0_3 := keep hb7 k0_3
  replace k0_4 := keep hb7 k0_4
  replace k0_5 := keep hb7 k0_5
  replace k0_6 := keep hb7 k0_6
  replace k0_7 := keep hb7 k0_7
  replace u1_0 := keep hb7 u1_0
  replace u1_1 := keep hb7 u1_1
  replace u1_2 := keep hb7 u1_2
  replace u1_3 := keep hb7 u1_3
  replace u1_4 := keep hb7 u1_4
  replace u1_5 := keep hb7 u1_5
  replace u1_6 := keep hb7 u1_6
  replace u1_7 := keep hb7 u1_7
  replace u2_0 := keep hb7 u2_0
  replace u2_1 := keep hb7 u2_1
  replace u2_2 := keep hb7 u2_2
  replace u2_3 := keep hb7 u2_3
  replace u2_4 := keep hb7 u2_4
  replace u2_5 := keep hb7 u2_5
  replace u2_6 := keep hb7 u2_6
  replace u2_7 := keep hb7 u2_7
  replace hL := hL.below hb7
  replace HB := below_call HB (Nat.le_refl _) hb7
  clear hb7
  go_wp2_with fail
  refine (sure07 _).mono ?_
  rintro e w8 ⟨rfl, hb8⟩
  replace k0_0 := keep hb8 k0_0
  replace k0_1 := keep hb8 k0_1
  replace k0_2 := keep hb8 k0_2
  replace k0_3 := keep hb8 k0_3
  replace k0_4 := keep hb8 k0_4
  replace k0_5 := keep hb8 k0_5
  replace k0_6 := keep hb8 k0_6
  replace k0_7 := keep hb8 k0_7
  replace u1_0 := keep hb8 u1_0
  replace u1_1 := keep hb8 u1_1
  replace u1_2 := keep hb8 u1_2
  replace u1_3 := keep hb8 u1_3
  replace u1_4 := keep hb8 u1_4
  replace u1_5 := keep hb8 u1_5
  replace u1_6 := keep hb8 u1_6
  replace u1_7 := keep hb8 u1_7
  replace u2_0 := keep hb8 u2_0
  replace u2_1 := keep hb8 u2_1
  replace u2_2 := keep hb8 u2_2
  replace u2_3 := keep hb8 u2_3
  replace u2_4 := keep hb8 u2_4
  replace u2_5 := keep hb8 u2_5
  replace u2_6 := keep hb8 u2_6
  replace u2_7 := keep hb8 u2_7
  replace hL := hL.below hb8
  replace HB := below_call HB (Nat.le_refl _) hb8
  clear hb8
  go_wp2
  go_ret
  exact ⟨rfl, HB⟩

set_option maxHeartbeats 4000000 in
set_option maxRecDepth 100000 in
theorem cx_switch (mq mp xq xp : Int) (lf st en : Int) (w : World) (hL : Laid w) (h : BV mq mp xq xp lf st en) (hx : Vld xq xp) (ht : en ≤ 1073741824) :
    Calls Tryd.prog 9 #[bud mq mp xq xp false lf st en, .int .i64 en] w fun e w' => e = .returned (.bool true) ∧ Below w.heap.size w w' := by
  have g1 : st ≤ en := (by have := h.2.2.2.2.2.2; have := h.1.lo; have := h.1.le; omega)
  have HB : Below w.heap.size w (w.alloc (.cells #[.int .i64 mq, .int .i64 mp, .int .i64 xq, .int .i64 xp, .bool false, .int .i64 lf, .int .i64 st, .int .i64 en] 30)) := ((Below.refl _ w).alloc (by simp) _)
  have k0_0 : (w.alloc (.cells #[.int .i64 mq, .int .i64 mp, .int .i64 xq, .int .i64 xp, .bool false, .int .i64 lf, .int .i64 st, .int .i64 en] 30)).cell? ⟨w.heap.size, 0, none⟩ = some (.int .i64 mq) := by simp
  have k0_1 : (w.alloc (.cells #[.int .i64 mq, .int .i64 mp, .int .i64 xq, .int .i64 xp, .bool false, .int .i64 lf, .int .i64 st, .int .i64 en] 30)).cell? ⟨w.heap.size, 1, none⟩ = some (.int .i64 mp) := by simp
  have k0_2 : (w.alloc (.cells #[.int .i64 mq, .int .i64 mp, .int .i64 xq, .int .i64 xp, .bool false, .int .i64 lf, .int .i64 st, .int .i64 en] 30)).cell? ⟨w.heap.size, 2, none⟩ = some (.int .i64 xq) := by simp
  have k0_3 : (w.alloc (.cells #[.int .i64 mq, .int .i64 mp, .int .i64 xq, .int .i64 xp, .bool false, .int .i64 lf, .int .i64 st, .int .i64 en] 30)).cell? ⟨w.heap.size, 3, none⟩ = some (.int .i64 xp) := by simp
  have k0_4 : (w.alloc (.cells #[.int .i64 mq, .int .i64 mp, .int .i64 xq, .int .i64 xp, .bool false, .int .i64 lf, .int .i64 st, .int .i64 en] 30)).cell? ⟨w.heap.size, 4, none⟩ = some (.bool false) := by simp
  have k0_5 : (w.alloc (.cells #[.int .i64 mq, .int .i64 mp, .int .i64 xq, .int .i64 xp, .bool false, .int .i64 lf, .int .i64 st, .int .i64 en] 30)).cell? ⟨w.heap.size, 5, none⟩ = some (.int .i64 lf) := by simp
  have k0_6 : (w.alloc (.cells #[.int .i64 mq, .int .i64 mp, .int .i64 xq, .int .i64 xp, .bool false, .int .i64 lf, .int .i64 st, .int .i64 en] 30)).cell? ⟨w.heap.size, 6, none⟩ = some (.int .i64 st) := by simp
  have k0_7 : (w.alloc (.cells #[.int .i64 mq, .int .i64 mp, .int .i64 xq, .int .i64 xp, .bool false, .int .i64 lf, .int .i64 st, .int .i64 en] 30)).cell? ⟨w.heap.size, 7, none⟩ = some (.int .i64 en) := by simp
  replace hL : Laid (w.alloc (.cells #[.int .i64 mq, .int .i64 mp, .int .i64 xq, .int .i64 xp, .bool false, .int .i64 lf, .int .i64 st, .int .i64 en] 30)) := hL.alloc _
  go_enter Tryd.func9, Tryd.ntmps9
  go_wp2_with fail
  refine (bcr_switch mq mp xq xp lf st en _ h hx ht).mono ?_
  rintro e w1 ⟨rfl, hb1⟩
  replace k0_0 := keep hb1 k0_0
  replace k0_1 := keep hb1 k0_1
  replace k0_2 := keep hb1 k0_2
  replace k0_3 := keep hb1 k0_3
  replace k0_4 := keep hb1 k0_4
  replace k0_5 := keep hb1 k0_5
  replace k0_6 := keep hb1 k0_6
  replace k0_7 := keep hb1 k0_7
  replace hL := hL.below hb1
  replace HB := below_call HB (Nat.le_refl _) hb1
  clear hb1
  have hbA : Below w1.heap.size w1 (w1.alloc (.cells #[.int .i64 xq, .int .i64 xp, .int .i64 0, .int .i64 0, .bool false, .int .i64 xq, .int .i64 en, .int .i64 (en + xp)] 25)) := (Below.refl _ _).alloc (Nat.le_refl _) _
  replace k0_0 := keep hbA k0_0
  replace k0_1 := keep hbA k0_1
  replace k0_2 := keep hbA k0_2
  replace k0_3 := keep hbA k0_3
  replace k0_4 := keep hbA k0_4
  replace k0_5 := keep hbA k0_5
  replace k0_6 := keep hbA k0_6
  replace k0_7 := keep hbA k0_7
  replace hL := hL.below hbA
  replace HB := below_call HB (Nat.le_refl _) hbA
  clear hbA
  have u1_0 : (w1.alloc (.cells #[.int .i64 xq, .int .i64 xp, .int .i64 0, .int .i64 0, .bool false, .int .i64 xq, .int .i64 en, .int .i64 (en + xp)] 25)).cell? ⟨w1.heap.size, 0, none⟩ = some (.int .i64 xq) := by simp
  have u1_1 : (w1.alloc (.cells #[.int .i64 xq, .int .i64 xp, .int .i64 0, .int .i64 0, .bool false, .int .i64 xq, .int .i64 en, .int .i64 (en + xp)] 25)).cell? ⟨w1.heap.size, 1, none⟩ = some (.int .i64 xp) := by simp
  have u1_2 : (w1.alloc (.cells #[.int .i64 xq, .int .i64 xp, .int .i64 0, .int .i64 0, .bool false, .int .i64 xq, .int .i64 en, .int .i64 (en + xp)] 25)).cell? ⟨w1.heap.size, 2, none⟩ = some (.int .i64 0) := by simp
  have u1_3 : (w1.alloc (.cells #[.int .i64 xq, .int .i64 xp, .int .i64 0, .int .i64 0, .bool false, .int .i64 xq, .int .i64 en, .int .i64 (en + xp)] 25)).cell? ⟨w1.heap.size, 3, none⟩ = some (.int .i64 0) := by simp
  have u1_4 : (w1.alloc (.cells #[.int .i64 xq, .int .i64 xp, .int .i64 0, .int .i64 0, .bool false, .int .i64 xq, .int .i64 en, .int .i64 (en + xp)] 25)).cell? ⟨w1.heap.size, 4, none⟩ = some (.bool false) := by simp
  have u1_5 : (w1.alloc (.cells #[.int .i64 xq, .int .i64 xp, .int .i64 0, .int .i64 0, .bool false, .int .i64 xq, .int .i64 en, .int .i64 (en + xp)] 25)).cell? ⟨w1.heap.size, 5, none⟩ = some (.int .i64 xq) := by simp
  have u1_6 : (w1.alloc (.cells #[.int .i64 xq, .int .i64 xp, .int .i64 0, .int .i64 0, .bool false, .int .i64 xq, .int .i64 en, .int .i64 (en + xp)] 25)).cell? ⟨w1.heap.size, 6, none⟩ = some (.int .i64 en) := by simp
  have u1_7 : (w1.alloc (.cells #[.int .i64 xq, .int .i64 xp, .int .i64 0, .int .i64 0, .bool false, .int .i64 xq, .int .i64 en, .int .i64 (en + xp)] 25)).cell? ⟨w1.heap.size, 7, none⟩ = some (.int .i64 (en + xp)) := by simp
  go_wp2_with fail
  refine (rcr_switch mq mp xq xp lf st en _ h hx ht).mono ?_
  rintro e w2 ⟨rfl, hb2⟩
  replace k0_0 := keep hb2 k0_0
  replace k0_1 := keep hb2 k0_1
  replace k0_2 := keep hb2 k0_2
  replace k0_3 := keep hb2 k0_3
  replace k0_4 := keep hb2 k0_4
  replace k0_5 := keep hb2 k0_5
  replace k0_6 := keep hb2 k0_6
  replace k0_7 := keep hb2 k0_7
  replace u1_0 := keep hb2 u1_0
  replace u1_1 := keep hb2 u1_1
  replace u1_2 := keep hb2 u1_2
  replace u1_3 := keep hb2 u1_3
  replace u1_4 := keep hb2 u1_4
  replace u1_5 := keep hb2 u1_5
  replace u1_6 := keep hb2 u1_6
  replace u1_7 := keep hb2 u1_7
  replace hL := hL.below hb2
  replace HB := below_call HB (Nat.le_refl _) hb2
  clear hb2
  have hbA : Below w2.heap.size w2 (w2.alloc (.cells #[.int .i64 xq, .int .i64 xp, .int .i64 0, .int .i64 0, .bool false, .int .i64 xq, .int .i64 en, .int .i64 (en + xp)] 30)) := (Below.refl _ _).alloc (Nat.le_refl _) _
  replace k0_0 := keep hbA k0_0
  replace k0_1 := keep hbA k0_1
  replace k0_2 := keep hbA k0_2
  replace k0_3 := keep hbA k0_3
  replace k0_4 := keep hbA k0_4
  replace k0_5 := keep hbA k0_5
  replace k0_6 := keep hbA k0_6
  replace k0_7 := keep hbA k0_7
  replace u1_0 := keep hbA u1_0
  replace u1_1 := keep hbA u1_1
  replace u1_2 := keep hbA u1_2
  replace u1_3 := keep hbA u1_3
  replace u1_4 := keep hbA u1_4
  replace u1_5 := keep hbA u1_5
  replace u1_6 := keep hbA u1_6
  replace u1_7 := keep hbA u1_7
  replace hL := hL.below hbA
  replace HB := below_call HB (Nat.le_refl _) hbA
  clear hbA
  have u2_0 : (w2.alloc (.cells #[.int .i64 xq, .int .i64 xp, .int .i64 0, .int .i64 0, .bool false, .int .i64 xq, .int .i64 en, .int .i64 (en + xp)] 30)).cell? ⟨w2.heap.size, 0, none⟩ = some (.int .i64 xq) := by simp
  have u2_1 : (w2.alloc (.cells #[.int .i64 xq, .int .i64 xp, .int .i64 0, .int .i64 0, .bool false, .int .i64 xq, .int .i64 en, .int .i64 (en + xp)] 30)).cell? ⟨w2.heap.size, 1, none⟩ = some (.int .i64 xp) := by simp
  have u2_2 : (w2.alloc (.cells #[.int .i64 xq, .int .i64 xp, .int .i64 0, .int .i64 0, .bool false, .int .i64 xq, .int .i64 en, .int .i64 (en + xp)] 30)).cell? ⟨w2.heap.size, 2, none⟩ = some (.int .i64 0) := by simp
  have u2_3 : (w2.alloc (.cells #[.int .i64 xq, .int .i64 xp, .int .i64 0, .int .i64 0, .bool false, .int .i64 xq, .int .i64 en, .int .i64 (en + xp)] 30)).cell? ⟨w2.heap.size, 3, none⟩ = some (.int .i64 0) := by simp
  have u2_4 : (w2.alloc (.cells #[.int .i64 xq, .int .i64 xp, .int .i64 0, .int .i64 0, .bool false, .int .i64 xq, .int .i64 en, .int .i64 (en + xp)] 30)).cell? ⟨w2.heap.size, 4, none⟩ = some (.bool false) := by simp
  have u2_5 : (w2.alloc (.cells #[.int .i64 xq, .int .i64 xp, .int .i64 0, .int .i64 0, .bool false, .int .i64 xq, .int .i64 en, .int .i64 (en + xp)] 30)).cell? ⟨w2.heap.size, 5, none⟩ = some (.int .i64 xq) := by simp
  have u2_6 : (w2.alloc (.cells #[.int .i64 xq, .int .i64 xp, .int .i64 0, .int .i64 0, .bool false, .int .i64 xq, .int .i64 en, .int .i64 (en + xp)] 30)).cell? ⟨w2.heap.size, 6, none⟩ = some (.int .i64 en) := by simp
  have u2_7 : (w2.alloc (.cells #[.int .i64 xq, .int .i64 xp, .int .i64 0, .int .i64 0, .bool false, .int .i64 xq, .int .i64 en, .int .i64 (en + xp)] 30)).cell? ⟨w2.heap.size, 7, none⟩ = some (.int .i64 (en + xp)) := by simp
  go_wp2_with fail
  refine (fair_ok mq mp xq xp false lf st en en _ h (by omega) (by omega)).mono ?_
  rintro e w3 ⟨rfl, hb3⟩
  replace k0_0 := keep hb3 k0_0
  replace k0_1 := keep hb3 k0_1
  replace k0_2 := keep hb3 k0_2
  replace k0_3 := keep hb3 k0_3
  replace k0_4 := keep hb3 k0_4
  replace k0_5 := keep hb3 k0_5
  replace k0_6 := keep hb3 k0_6
  replace k0_7 := keep hb3 k0_7
  replace u1_0 := keep hb3 u1_0
  replace u1_1 := keep hb3 u1_1
  replace u1_2 := keep hb3 u1_2
  replace u1_3 := keep hb3 u1_3
  replace u1_4 := keep hb3 u1_4
  replace u1_5 := keep hb3 u1_5
  replace u1_6 := keep hb3 u1_6
  replace u1_7 := keep hb3 u1_7
  replace u2_0 := keep hb3 u2_0
  replace u2_1 := keep hb3 u2_1
  replace u2_2 := keep hb3 u2_2
  replace u2_3 := keep hb3 u2_3
  replace u2_4 := keep hb3 u2_4
  replace u2_5 := keep hb3 u2_5
  replace u2_6 := keep hb3 u2_6
  replace u2_7 := keep hb3 u2_7
  replace hL := hL.below hb3
  replace HB := below_call HB (Nat.le_refl _) hb3
  clear hb3
  go_wp2_with fail
  refine (rfair_ok mq mp xq xp false lf st en en _ h (by omega) (by omega)).mono ?_
  rintro e w4 ⟨rfl, hb4⟩
  replace k0_0 := keep hb4 k0_0
  replace k0_1 := keep hb4 k0_1
  replace k0_2 := keep hb4 k0_2
  replace k0_3 := keep hb4 k0_3
  replace k0_4 := keep hb4 k0_4
  replace k0_5 := keep hb4 k0_5
  replace k0_6 := keep hb4 k0_6
  replace k0_7 := keep hb4 k0_7
  replace u1_0 := keep hb4 u1_0
  replace u1_1 := keep hb4 u1_1
  replace u1_2 := keep hb4 u1_2
  replace u1_3 := keep hb4 u1_3
  replace u1_4 := keep hb4 u1_4
  replace u1_5 := keep hb4 u1_5
  replace u1_6 := keep hb4 u1_6
  replace u1_7 := keep hb4 u1_7
  replace u2_0 := keep hb4 u2_0
  replace u2_1 := keep hb4 u2_1
  replace u2_2 := keep hb4 u2_2
  replace u2_3 := keep hb4 u2_3
  replace u2_4 := keep hb4 u2_4
  replace u2_5 := keep hb4 u2_5
  replace u2_6 := keep hb4 u2_6
  replace u2_7 := keep hb4 u2_7
  replace hL := hL.below hb4
  replace HB := below_call HB (Nat.le_refl _) hb4
  clear hb4
  go_wp2_with fail
  refine (same_refl xq xp 0 0 false xq en (en + xp) _).mono ?_
  rintro e w5 ⟨rfl, hb5⟩
  replace k0_0 := keep hb5 k0_0
  replace k0_1 := keep hb5 k0_1
  replace k0_2 := keep hb5 k0_2
  replace k0_3 := keep hb5 k0_3
  replace k0_4 := keep hb5 k0_4
  replace k0_5 := keep hb5 k0_5
  replace k0_6 := keep hb5 k0_6
  replace k0_7 := keep hb5 k0_7
  replace u1_0 := keep hb5 u1_0
  replace u1_1 := keep hb5 u1_1
  replace u1_2 := keep hb5 u1_2
  replace u1_3 := keep hb5 u1_3
  replace u1_4 := keep hb5 u1_4
  replace u1_5 := keep hb5 u1_5
  replace u1_6 := keep hb5 u1_6
  replace u1_7 := keep hb5 u1_7
  replace u2_0 := keep hb5 u2_0
  replace u2_1 := keep hb5 u2_1
  replace u2_2 := keep hb5 u2_2
  replace u2_3 := keep hb5 u2_3
  replace u2_4 := keep hb5 u2_4
  replace u2_5 := keep hb5 u2_5
  replace u2_6 := keep hb5 u2_6
  replace u2_7 := keep hb5 u2_7
  replace hL := hL.below hb5
  replace HB := below_call HB (Nat.le_refl _) hb5
  clear hb5
  go_wp2_with fail
  refine (num07_nil _).mono ?_
  rintro e w6 ⟨rfl, hb6⟩
  replace k0_0 := keep hb6 k0_0
  replace k0_1 := keep hb6 k0_1
  replace k0_2 := keep hb6 k0_2
  replace k0_3 := keep hb6 k0_3
  replace k0_4 := keep hb6 k0_4
  replace k0_5 := keep hb6 k0_5
  replace k0_6 := keep hb6 k0_6
  replace k0_7 := keep hb6 k0_7
  replace u1_0 := keep hb6 u1_0
  replace u1_1 := keep hb6 u1_1
  replace u1_2 := keep hb6 u1_2
  replace u1_3 := keep hb6 u1_3
  replace u1_4 := keep hb6 u1_4
  replace u1_5 := keep hb6 u1_5
  replace u1_6 := keep hb6 u1_6
  replace u1_7 := keep hb6 u1_7
  replace u2_0 := keep hb6 u2_0
  replace u2_1 := keep hb6 u2_1
  replace u2_2 := keep hb6 u2_2
  replace u2_3 := keep hb6 u2_3
  replace u2_4 := keep hb6 u2_4
  replace u2_5 := keep hb6 u2_5
  replace u2_6 := keep hb6 u2_6
  replace u2_7 := keep hb6 u2_7
  replace hL := hL.below hb6
  replace HB := below_call HB (Nat.le_refl _) hb6
  clear hb6
  go_wp2_with fail
  refine (num07_nil _).mono ?_
  rintro e w7 ⟨rfl, hb7⟩
  replace k0_0 := keep hb7 k0_0
  replace k0_1 := keep hb7 k0_1
  replace k0_2 := keep hb7 k0_2
  replace k0_3 := keep hb7 k0_3
  replace k0_4 := keep hb7 k0_4
  replace k0_5 := keep hb7 k0_5
  replace k0_6 := keep hb7 k0_6
  replace k0_7 := keep hb7 k0_7
  replace u1_0 := keep hb7 u1_0
  replace u1_1 := keep hb7 u1_1
  replace u1_2 := keep hb7 u1_2
  replace u1_3 := keep hb7 u1_3
  replace u1_4 := keep hb7 u1_4
  replace u1_5 := keep hb7 u1_5
  replace u1_6 := keep hb7 u1_6
  replace u1_7 := keep hb7 u1_7
  replace u2_0 := keep hb7 u2_0
  replace u2_1 := keep hb7 u2_1
  replace u2_2 := keep hb7 u2_2
  replace u2_3 := keep hb7 u2_3
  replace u2_4 := keep hb7 u2_4
  replace u2_5 := keep hb7 u2_5
  replace u2_6 := keep hb7 u2_6
  replace u2_7 := keep hb7 u2_7
  replace hL := hL.below hb7
  replace HB := below_call HB (Nat.le_refl _) hb7
  clear hb7
  go_wp2_with fail
  refine (sure07 _).mono ?_
  rintro e w8 ⟨rfl, hb8⟩
  replace k0_0 := keep hb8 k0_0
  replace k0_1 := keep hb8 k0_1
  replace k0_2 := keep hb8 k0_2
  replace k0_3 := keep hb8 k0_3
  replace k0_4 := keep hb8 k0_4
  replace k0_5 := keep hb8 k0_5
  replace k0_6 := keep hb8 k0_6
  replace k0_7 := keep hb8 k0_7
  replace u1_0 := keep hb8 u1_0
  replace u1_1 := keep hb8 u1_1
  replace u1_2 := keep hb8 u1_2
  replace u1_3 := keep hb8 u1_3
  replace u1_4 := keep hb8 u1_4
  replace u1_5 := keep hb8 u1_5
  replace u1_6 := keep hb8 u1_6
  replace u1_7 := keep hb8 u1_7
  replace u2_0 := keep hb8 u2_0
  replace u2_1 := keep hb8 u2_1
  replace u2_2 := keep hb8 u2_2
  replace u2_3 := keep hb8 u2_3
  replace u2_4 := keep hb8 u2_4
  replace u2_5 := keep hb8 u2_5
  replace u2_6 := keep hb8 u2_6
  replace u2_7 := keep hb8 u2_7
  replace hL := hL.below hb8
  replace HB := below_call HB (Nat.le_refl _) hb8
  clear hb8
  go_wp2
  go_ret
  exact ⟨rfl, HB⟩

theorem cx_any (mq mp xq xp : Int) (dy : Bool) (lf st en at_ : Int) (w : World) (hL : Laid w) :
    Calls Tryd.prog 9 #[bud mq mp xq xp dy lf st en, .int .i64 at_] w fun e w' => e = .returned (.bool true) ∧ Below w.heap.size w w' := by
  by_cases h : BV mq mp xq xp lf st en
  · by_cases e : at_ = en
    · subst e
      by_cases ht : 1073741824 < at_
      · exact cx_time mq mp xq xp dy lf st at_ w hL h ht
      · have ht : at_ ≤ 1073741824 := by omega
        cases dy
        · rcases h.2.1 with ⟨rfl, rfl⟩ | ⟨z, _, v⟩ | ⟨z, _, _, v⟩
          · exact cx_same mq mp lf st at_ w hL h ht
          · exact cx_switch mq mp xq xp lf st at_ w hL h v ht
          · exact cx_switch mq mp xq xp lf st at_ w hL h v ht
        · exact cx_die mq mp xq xp lf st at_ w hL h ht
    · have hat : (at_ != en) = true := by simpa using e
      by_cases h1 : at_ < st
      · exact cx_arglo mq mp xq xp dy lf st en at_ w hL h hat h1
      · by_cases h2 : en < at_
        · exact cx_arghi mq mp xq xp dy lf st en at_ w hL h hat (by omega) (by omega)
        · exact cx_argok mq mp xq xp dy lf st en at_ w hL h hat (by omega) (by omega)
  · exact cx_bad mq mp xq xp dy lf st en at_ w hL h

end Go.Proofs.YtggcahcdhjnemaaDoor
