/- The walk of BudgetResizes: the call returns true. -/
import Derived.Test.YtggcahcdhjnemaaDoorBud5
import Derived.Test.YtggcahcdhjnemaaDoorBud6
import Derived.Test.YtggcahcdhjnemaaDoorBud7
import Derived.Test.YtggcahcdhjnemaaDoorBud8
import Derived.Test.YtggcahcdhjnemaaDoorBud9
import Derived.Test.YtggcahcdhjnemaaDoorNum07
set_option linter.unusedVariables false
set_option linter.unusedSimpArgs false
namespace Go.Proofs.YtggcahcdhjnemaaDoor
open Go.RowKit

theorem res_ok (mq mp xq xp : Int) (dy : Bool) (lf st en : Int) (w : World) (h : BV mq mp xq xp lf st en) :
    Calls Tryd.prog 36 #[bud mq mp xq xp dy lf st en] w fun e w' => e = .returned (.tuple #[.int .i64 (heldOf mq mp xq xp), .nilIface]) ∧ Below w.heap.size w w' := by
  rcases h.2.1 with ⟨rfl, rfl⟩ | ⟨z, _, v⟩ | ⟨z, _, _, v⟩
  · rw [held_none]; exact res_ok0 mq mp dy lf st en w h
  · rw [held_some z]; exact res_ok1 mq mp xq xp dy lf st en w h v
  · rw [held_some z]; exact res_ok1 mq mp xq xp dy lf st en w h v

theorem rres_ok (mq mp xq xp : Int) (dy : Bool) (lf st en : Int) (w : World) (h : BV mq mp xq xp lf st en) :
    Calls Tryd.prog 37 #[bud mq mp xq xp dy lf st en] w fun e w' => e = .returned (.tuple #[.int .i64 (heldOf mq mp xq xp), .int .i64 0]) ∧ Below w.heap.size w w' := by
  rcases h.2.1 with ⟨rfl, rfl⟩ | ⟨z, _, v⟩ | ⟨z, _, _, v⟩
  · rw [held_none]; exact rres_ok0 mq mp dy lf st en w h
  · rw [held_some z]; exact rres_ok1 mq mp xq xp dy lf st en w h v
  · rw [held_some z]; exact rres_ok1 mq mp xq xp dy lf st en w h v

set_option maxHeartbeats 4000000 in
set_option maxRecDepth 100000 in
theorem rz_bad (mq mp xq xp : Int) (dy : Bool) (lf st en q p : Int) (w : World) (hL : Laid w) (h : ¬ BV mq mp xq xp lf st en) :
    Calls Tryd.prog 8 #[bud mq mp xq xp dy lf st en, .agg #[.int .i64 q, .int .i64 p]] w fun e w' => e = .returned (.bool true) ∧ Below w.heap.size w w' := by
  have HB : Below w.heap.size w ((w.alloc (.cells #[.int .i64 mq, .int .i64 mp, .int .i64 xq, .int .i64 xp, .bool dy, .int .i64 lf, .int .i64 st, .int .i64 en] 30)).alloc (.cells #[.int .i64 q, .int .i64 p] 23)) := (((Below.refl _ w).alloc (by simp) _).alloc (by simp) _)
  have k0_0 : ((w.alloc (.cells #[.int .i64 mq, .int .i64 mp, .int .i64 xq, .int .i64 xp, .bool dy, .int .i64 lf, .int .i64 st, .int .i64 en] 30)).alloc (.cells #[.int .i64 q, .int .i64 p] 23)).cell? ⟨w.heap.size, 0, none⟩ = some (.int .i64 mq) := by simp
  have k0_1 : ((w.alloc (.cells #[.int .i64 mq, .int .i64 mp, .int .i64 xq, .int .i64 xp, .bool dy, .int .i64 lf, .int .i64 st, .int .i64 en] 30)).alloc (.cells #[.int .i64 q, .int .i64 p] 23)).cell? ⟨w.heap.size, 1, none⟩ = some (.int .i64 mp) := by simp
  have k0_2 : ((w.alloc (.cells #[.int .i64 mq, .int .i64 mp, .int .i64 xq, .int .i64 xp, .bool dy, .int .i64 lf, .int .i64 st, .int .i64 en] 30)).alloc (.cells #[.int .i64 q, .int .i64 p] 23)).cell? ⟨w.heap.size, 2, none⟩ = some (.int .i64 xq) := by simp
  have k0_3 : ((w.alloc (.cells #[.int .i64 mq, .int .i64 mp, .int .i64 xq, .int .i64 xp, .bool dy, .int .i64 lf, .int .i64 st, .int .i64 en] 30)).alloc (.cells #[.int .i64 q, .int .i64 p] 23)).cell? ⟨w.heap.size, 3, none⟩ = some (.int .i64 xp) := by simp
  have k0_4 : ((w.alloc (.cells #[.int .i64 mq, .int .i64 mp, .int .i64 xq, .int .i64 xp, .bool dy, .int .i64 lf, .int .i64 st, .int .i64 en] 30)).alloc (.cells #[.int .i64 q, .int .i64 p] 23)).cell? ⟨w.heap.size, 4, none⟩ = some (.bool dy) := by simp
  have k0_5 : ((w.alloc (.cells #[.int .i64 mq, .int .i64 mp, .int .i64 xq, .int .i64 xp, .bool dy, .int .i64 lf, .int .i64 st, .int .i64 en] 30)).alloc (.cells #[.int .i64 q, .int .i64 p] 23)).cell? ⟨w.heap.size, 5, none⟩ = some (.int .i64 lf) := by simp
  have k0_6 : ((w.alloc (.cells #[.int .i64 mq, .int .i64 mp, .int .i64 xq, .int .i64 xp, .bool dy, .int .i64 lf, .int .i64 st, .int .i64 en] 30)).alloc (.cells #[.int .i64 q, .int .i64 p] 23)).cell? ⟨w.heap.size, 6, none⟩ = some (.int .i64 st) := by simp
  have k0_7 : ((w.alloc (.cells #[.int .i64 mq, .int .i64 mp, .int .i64 xq, .int .i64 xp, .bool dy, .int .i64 lf, .int .i64 st, .int .i64 en] 30)).alloc (.cells #[.int .i64 q, .int .i64 p] 23)).cell? ⟨w.heap.size, 7, none⟩ = some (.int .i64 en) := by simp
  have k1_0 : ((w.alloc (.cells #[.int .i64 mq, .int .i64 mp, .int .i64 xq, .int .i64 xp, .bool dy, .int .i64 lf, .int .i64 st, .int .i64 en] 30)).alloc (.cells #[.int .i64 q, .int .i64 p] 23)).cell? ⟨w.heap.size + 1, 0, none⟩ = some (.int .i64 q) := by simp
  have k1_1 : ((w.alloc (.cells #[.int .i64 mq, .int .i64 mp, .int .i64 xq, .int .i64 xp, .bool dy, .int .i64 lf, .int .i64 st, .int .i64 en] 30)).alloc (.cells #[.int .i64 q, .int .i64 p] 23)).cell? ⟨w.heap.size + 1, 1, none⟩ = some (.int .i64 p) := by simp
  replace hL : Laid ((w.alloc (.cells #[.int .i64 mq, .int .i64 mp, .int .i64 xq, .int .i64 xp, .bool dy, .int .i64 lf, .int .i64 st, .int .i64 en] 30)).alloc (.cells #[.int .i64 q, .int .i64 p] 23)) := (hL.alloc _).alloc _
  go_enter Tryd.func8, Tryd.ntmps8
  go_wp2_with fail
  refine (brs_bad mq mp xq xp dy lf st en q p _ h).mono ?_
  rintro e w1 ⟨rfl, hb1⟩
  replace k0_0 := keep hb1 k0_0
  replace k0_1 := keep hb1 k0_1
  replace k0_2 := keep hb1 k0_2
  replace k0_3 := keep hb1 k0_3
  replace k0_4 := keep hb1 k0_4
  replace k0_5 := keep hb1 k0_5
  replace k0_6 := keep hb1 k0_6
  replace k0_7 := keep hb1 k0_7
  replace k1_0 := keep hb1 k1_0
  replace k1_1 := keep hb1 k1_1
  replace hL := hL.below hb1
  replace HB := below_call HB (Nat.le_refl _) hb1
  clear hb1
  have hbA : Below w1.heap.size w1 (w1.alloc (.cells #[.int .i64 0, .int .i64 0, .int .i64 0, .int .i64 0, .bool false, .int .i64 0, .int .i64 0, .int .i64 0] 25)) := (Below.refl _ _).alloc (Nat.le_refl _) _
  replace k0_0 := keep hbA k0_0
  replace k0_1 := keep hbA k0_1
  replace k0_2 := keep hbA k0_2
  replace k0_3 := keep hbA k0_3
  replace k0_4 := keep hbA k0_4
  replace k0_5 := keep hbA k0_5
  replace k0_6 := keep hbA k0_6
  replace k0_7 := keep hbA k0_7
  replace k1_0 := keep hbA k1_0
  replace k1_1 := keep hbA k1_1
  replace hL := hL.below hbA
  replace HB := below_call HB (Nat.le_refl _) hbA
  clear hbA
  have u1_0 : (w1.alloc (.cells #[.int .i64 0, .int .i64 0, .int .i64 0, .int .i64 0, .bool false, .int .i64 0, .int .i64 0, .int .i64 0] 25)).cell? ⟨w1.heap.size, 0, none⟩ = some (.int .i64 0) := by simp
  have u1_1 : (w1.alloc (.cells #[.int .i64 0, .int .i64 0, .int .i64 0, .int .i64 0, .bool false, .int .i64 0, .int .i64 0, .int .i64 0] 25)).cell? ⟨w1.heap.size, 1, none⟩ = some (.int .i64 0) := by simp
  have u1_2 : (w1.alloc (.cells #[.int .i64 0, .int .i64 0, .int .i64 0, .int .i64 0, .bool false, .int .i64 0, .int .i64 0, .int .i64 0] 25)).cell? ⟨w1.heap.size, 2, none⟩ = some (.int .i64 0) := by simp
  have u1_3 : (w1.alloc (.cells #[.int .i64 0, .int .i64 0, .int .i64 0, .int .i64 0, .bool false, .int .i64 0, .int .i64 0, .int .i64 0] 25)).cell? ⟨w1.heap.size, 3, none⟩ = some (.int .i64 0) := by simp
  have u1_4 : (w1.alloc (.cells #[.int .i64 0, .int .i64 0, .int .i64 0, .int .i64 0, .bool false, .int .i64 0, .int .i64 0, .int .i64 0] 25)).cell? ⟨w1.heap.size, 4, none⟩ = some (.bool false) := by simp
  have u1_5 : (w1.alloc (.cells #[.int .i64 0, .int .i64 0, .int .i64 0, .int .i64 0, .bool false, .int .i64 0, .int .i64 0, .int .i64 0] 25)).cell? ⟨w1.heap.size, 5, none⟩ = some (.int .i64 0) := by simp
  have u1_6 : (w1.alloc (.cells #[.int .i64 0, .int .i64 0, .int .i64 0, .int .i64 0, .bool false, .int .i64 0, .int .i64 0, .int .i64 0] 25)).cell? ⟨w1.heap.size, 6, none⟩ = some (.int .i64 0) := by simp
  have u1_7 : (w1.alloc (.cells #[.int .i64 0, .int .i64 0, .int .i64 0, .int .i64 0, .bool false, .int .i64 0, .int .i64 0, .int .i64 0] 25)).cell? ⟨w1.heap.size, 7, none⟩ = some (.int .i64 0) := by simp
  go_wp2_with fail
  refine (rrs_bad mq mp xq xp dy lf st en q p _ h).mono ?_
  rintro e w2 ⟨rfl, hb2⟩
  replace k0_0 := keep hb2 k0_0
  replace k0_1 := keep hb2 k0_1
  replace k0_2 := keep hb2 k0_2
  replace k0_3 := keep hb2 k0_3
  replace k0_4 := keep hb2 k0_4
  replace k0_5 := keep hb2 k0_5
  replace k0_6 := keep hb2 k0_6
  replace k0_7 := keep hb2 k0_7
  replace k1_0 := keep hb2 k1_0
  replace k1_1 := keep hb2 k1_1
  replace u1_0 := keep hb2 u1_0
  replace u1_1 := keep hb2 u1_1
  replace u1_2 := keep hb2 u1_2
  replace u1_3 := keep hb2 u1_3
  replace u1_4 := keep hb2 u1_4
  replace u1_5 := keep hb2 u1_5
  replace u1_6 := keep hb2 u1_6
  replace u1_7 := keep hb2 u1_7
  replace hL := hL.below hb2
  replace HB := below_call HB (Nat.le_refl _) hb2
  clear hb2
  have hbA : Below w2.heap.size w2 (w2.alloc (.cells #[.int .i64 0, .int .i64 0, .int .i64 0, .int .i64 0, .bool false, .int .i64 0, .int .i64 0, .int .i64 0] 30)) := (Below.refl _ _).alloc (Nat.le_refl _) _
  replace k0_0 := keep hbA k0_0
  replace k0_1 := keep hbA k0_1
  replace k0_2 := keep hbA k0_2
  replace k0_3 := keep hbA k0_3
  replace k0_4 := keep hbA k0_4
  replace k0_5 := keep hbA k0_5
  replace k0_6 := keep hbA k0_6
  replace k0_7 := keep hbA k0_7
  replace k1_0 := keep hbA k1_0
  replace k1_1 := keep hbA k1_1
  replace u1_0 := keep hbA u1_0
  replace u1_1 := keep hbA u1_1
  replace u1_2 := keep hbA u1_2
  replace u1_3 := keep hbA u1_3
  replace u1_4 := keep hbA u1_4
  replace u1_5 := keep hbA u1_5
  replace u1_6 := keep hbA u1_6
  replace u1_7 := keep hbA u1_7
  replace hL := hL.below hbA
  replace HB := below_call HB (Nat.le_refl _) hbA
  clear hbA
  have u2_0 : (w2.alloc (.cells #[.int .i64 0, .int .i64 0, .int .i64 0, .int .i64 0, .bool false, .int .i64 0, .int .i64 0, .int .i64 0] 30)).cell? ⟨w2.heap.size, 0, none⟩ = some (.int .i64 0) := by simp
  have u2_1 : (w2.alloc (.cells #[.int .i64 0, .int .i64 0, .int .i64 0, .int .i64 0, .bool false, .int .i64 0, .int .i64 0, .int .i64 0] 30)).cell? ⟨w2.heap.size, 1, none⟩ = some (.int .i64 0) := by simp
  have u2_2 : (w2.alloc (.cells #[.int .i64 0, .int .i64 0, .int .i64 0, .int .i64 0, .bool false, .int .i64 0, .int .i64 0, .int .i64 0] 30)).cell? ⟨w2.heap.size, 2, none⟩ = some (.int .i64 0) := by simp
  have u2_3 : (w2.alloc (.cells #[.int .i64 0, .int .i64 0, .int .i64 0, .int .i64 0, .bool false, .int .i64 0, .int .i64 0, .int .i64 0] 30)).cell? ⟨w2.heap.size, 3, none⟩ = some (.int .i64 0) := by simp
  have u2_4 : (w2.alloc (.cells #[.int .i64 0, .int .i64 0, .int .i64 0, .int .i64 0, .bool false, .int .i64 0, .int .i64 0, .int .i64 0] 30)).cell? ⟨w2.heap.size, 4, none⟩ = some (.bool false) := by simp
  have u2_5 : (w2.alloc (.cells #[.int .i64 0, .int .i64 0, .int .i64 0, .int .i64 0, .bool false, .int .i64 0, .int .i64 0, .int .i64 0] 30)).cell? ⟨w2.heap.size, 5, none⟩ = some (.int .i64 0) := by simp
  have u2_6 : (w2.alloc (.cells #[.int .i64 0, .int .i64 0, .int .i64 0, .int .i64 0, .bool false, .int .i64 0, .int .i64 0, .int .i64 0] 30)).cell? ⟨w2.heap.size, 6, none⟩ = some (.int .i64 0) := by simp
  have u2_7 : (w2.alloc (.cells #[.int .i64 0, .int .i64 0, .int .i64 0, .int .i64 0, .bool false, .int .i64 0, .int .i64 0, .int .i64 0] 30)).cell? ⟨w2.heap.size, 7, none⟩ = some (.int .i64 0) := by simp
  go_wp2_with fail
  refine (res_bad mq mp xq xp dy lf st en _ h).mono ?_
  rintro e w3 ⟨rfl, hb3⟩
  replace k0_0 := keep hb3 k0_0
  replace k0_1 := keep hb3 k0_1
  replace k0_2 := keep hb3 k0_2
  replace k0_3 := keep hb3 k0_3
  replace k0_4 := keep hb3 k0_4
  replace k0_5 := keep hb3 k0_5
  replace k0_6 := keep hb3 k0_6
  replace k0_7 := keep hb3 k0_7
  replace k1_0 := keep hb3 k1_0
  replace k1_1 := keep hb3 k1_1
  replace u1_0 := keep hb3 u1_0
  replace u1_1 := keep hb3 u1_1
  replace u1_2 := keep hb3 u1_2
  replace u1_3 := keep hb3 u1_3
  replace u1_4 := keep hb3 u1_4
  replace u1_5 := keep hb3 u1_5
  replace u1_6 := keep hb3 u1_6
  replace u1_7 := keep hb3 u1_7
  replace u2_0 := keep hb3 u2_0
  replace u2_1 := keep hb3 u2_1
  replace u2_2 := keep hb3 u2_2
  replace u2_3 := keep hb3 u2_3
  replace u2_4 := keep hb3 u2_4
  replace u2_5 := keep hb3 u2_5
  replace u2_6 := keep hb3 u2_6
  replace u2_7 := keep hb3 u2_7
  replace hL := hL.below hb3
  replace HB := below_call HB (Nat.le_refl _) hb3
  clear hb3
  go_wp2_with fail
  refine (rres_bad mq mp xq xp dy lf st en _ h).mono ?_
  rintro e w4 ⟨rfl, hb4⟩
  replace k0_0 := keep hb4 k0_0
  replace k0_1 := keep hb4 k0_1
  replace k0_2 := keep hb4 k0_2
  replace k0_3 := keep hb4 k0_3
  replace k0_4 := keep hb4 k0_4
  replace k0_5 := keep hb4 k0_5
  replace k0_6 := keep hb4 k0_6
  replace k0_7 := keep hb4 k0_7
  replace k1_0 := keep hb4 k1_0
  replace k1_1 := keep hb4 k1_1
  replace u1_0 := keep hb4 u1_0
  replace u1_1 := keep hb4 u1_1
  replace u1_2 := keep hb4 u1_2
  replace u1_3 := keep hb4 u1_3
  replace u1_4 := keep hb4 u1_4
  replace u1_5 := keep hb4 u1_5
  replace u1_6 := keep hb4 u1_6
  replace u1_7 := keep hb4 u1_7
  replace u2_0 := keep hb4 u2_0
  replace u2_1 := keep hb4 u2_1
  replace u2_2 := keep hb4 u2_2
  replace u2_3 := keep hb4 u2_3
  replace u2_4 := keep hb4 u2_4
  replace u2_5 := keep hb4 u2_5
  replace u2_6 := keep hb4 u2_6
  replace u2_7 := keep hb4 u2_7
  replace hL := hL.below hb4
  replace HB := below_call HB (Nat.le_refl _) hb4
  clear hb4
  go_wp2_with fail
  refine (same_refl 0 0 0 0 false 0 0 0 _).mono ?_
  rintro e w5 ⟨rfl, hb5⟩
  replace k0_0 := keep hb5 k0_0
  replace k0_1 := keep hb5 k0_1
  replace k0_2 := keep hb5 k0_2
  replace k0_3 := keep hb5 k0_3
  replace k0_4 := keep hb5 k0_4
  replace k0_5 := keep hb5 k0_5
  replace k0_6 := keep hb5 k0_6
  replace k0_7 := keep hb5 k0_7
  replace k1_0 := keep hb5 k1_0
  replace k1_1 := keep hb5 k1_1
  replace u1_0 := keep hb5 u1_0
  replace u1_1 := keep hb5 u1_1
  replace u1_2 := keep hb5 u1_2
  replace u1_3 := keep hb5 u1_3
  replace u1_4 := keep hb5 u1_4
  replace u1_5 := keep hb5 u1_5
  replace u1_6 := keep hb5 u1_6
  replace u1_7 := keep hb5 u1_7
  replace u2_0 := keep hb5 u2_0
  replace u2_1 := keep hb5 u2_1
  replace u2_2 := keep hb5 u2_2
  replace u2_3 := keep hb5 u2_3
  replace u2_4 := keep hb5 u2_4
  replace u2_5 := keep hb5 u2_5
  replace u2_6 := keep hb5 u2_6
  replace u2_7 := keep hb5 u2_7
  replace hL := hL.below hb5
  replace HB := below_call HB (Nat.le_refl _) hb5
  clear hb5
  go_wp2_with fail
  refine (num07_err 270 _ hL).mono ?_
  rintro e w6 ⟨rfl, hb6⟩
  replace k0_0 := keep hb6 k0_0
  replace k0_1 := keep hb6 k0_1
  replace k0_2 := keep hb6 k0_2
  replace k0_3 := keep hb6 k0_3
  replace k0_4 := keep hb6 k0_4
  replace k0_5 := keep hb6 k0_5
  replace k0_6 := keep hb6 k0_6
  replace k0_7 := keep hb6 k0_7
  replace k1_0 := keep hb6 k1_0
  replace k1_1 := keep hb6 k1_1
  replace u1_0 := keep hb6 u1_0
  replace u1_1 := keep hb6 u1_1
  replace u1_2 := keep hb6 u1_2
  replace u1_3 := keep hb6 u1_3
  replace u1_4 := keep hb6 u1_4
  replace u1_5 := keep hb6 u1_5
  replace u1_6 := keep hb6 u1_6
  replace u1_7 := keep hb6 u1_7
  replace u2_0 := keep hb6 u2_0
  replace u2_1 := keep hb6 u2_1
  replace u2_2 := keep hb6 u2_2
  replace u2_3 := keep hb6 u2_3
  replace u2_4 := keep hb6 u2_4
  replace u2_5 := keep hb6 u2_5
  replace u2_6 := keep hb6 u2_6
  replace u2_7 := keep hb6 u2_7
  replace hL := hL.below hb6
  replace HB := below_call HB (Nat.le_refl _) hb6
  clear hb6
  go_wp2_with fail
  refine (num07_err 270 _ hL).mono ?_
  rintro e w7 ⟨rfl, hb7⟩
  replace k0_0 := keep hb7 k0_0
  replace k0_1 := keep hb7 k0_1
  replace k0_2 := keep hb7 k0_2
  replace k0_3 := keep hb7 k0_3
  replace k0_4 := keep hb7 k0_4
  replace k0_5 := keep hb7 k0_5
  replace k0_6 := keep hb7 k0_6
  replace k0_7 := keep hb7 k0_7
  replace k1_0 := keep hb7 k1_0
  replace k1_1 := keep hb7 k1_1
  replace u1_0 := keep hb7 u1_0
  replace u1_1 := keep hb7 u1_1
  replace u1_2 := keep hb7 u1_2
  replace u1_3 := keep hb7 u1_3
  replace u1_4 := keep hb7 u1_4
  replace u1_5 := keep hb7 u1_5
  replace u1_6 := keep hb7 u1_6
  replace u1_7 := keep hb7 u1_7
  replace u2_0 := keep hb7 u2_0
  replace u2_1 := keep hb7 u2_1
  replace u2_2 := keep hb7 u2_2
  replace u2_3 := keep hb7 u2_3
  replace u2_4 := keep hb7 u2_4
  replace u2_5 := keep hb7 u2_5
  replace u2_6 := keep hb7 u2_6
  replace u2_7 := keep hb7 u2_7
  replace hL := hL.below hb7
  replace HB := below_call HB (Nat.le_refl _) hb7
  clear hb7
  go_wp2_with fail
  refine (sure07 _).mono ?_
  rintro e w8 ⟨rfl, hb8⟩
  replace k0_0 := keep hb8 k0_0
  replace k0_1 := keep hb8 k0_1
  replace k0_2 := keep hb8 k0_2
  replace k0_3 := keep hb8 k0_3
  replace k0_4 := keep hb8 k0_4
  replace k0_5 := keep hb8 k0_5
  replace k0_6 := keep hb8 k0_6
  replace k0_7 := keep hb8 k0_7
  replace k1_0 := keep hb8 k1_0
  replace k1_1 := keep hb8 k1_1
  replace u1_0 := keep hb8 u1_0
  replace u1_1 := keep hb8 u1_1
  replace u1_2 := keep hb8 u1_2
  replace u1_3 := keep hb8 u1_3
  replace u1_4 := keep hb8 u1_4
  replace u1_5 := keep hb8 u1_5
  replace u1_6 := keep hb8 u1_6
  replace u1_7 := keep hb8 u1_7
  replace u2_0 := keep hb8 u2_0
  replace u2_1 := keep hb8 u2_1
  replace u2_2 := keep hb8 u2_2
  replace u2_3 := keep hb8 u2_3
  replace u2_4 := keep hb8 u2_4
  replace u2_5 := keep hb8 u2_5
  replace u2_6 := keep hb8 u2_6
  replace u2_7 := keep hb8 u2_7
  replace hL := hL.below hb8
  replace HB := below_call HB (Nat.le_refl _) hb8
  clear hb8
  go_wp2
  go_ret
  exact ⟨rfl, HB⟩

set_option maxHeartbeats 4000000 in
set_option maxRecDepth 100000 in
theorem rz_range (mq mp xq xp : Int) (dy : Bool) (lf st en q p : Int) (w : World) (hL : Laid w) (h : BV mq mp xq xp lf st en) (hr : ¬ Vld q p) :
    Calls Tryd.prog 8 #[bud mq mp xq xp dy lf st en, .agg #[.int .i64 q, .int .i64 p]] w fun e w' => e = .returned (.bool true) ∧ Below w.heap.size w w' := by
  have HB : Below w.heap.size w ((w.alloc (.cells #[.int .i64 mq, .int .i64 mp, .int .i64 xq, .int .i64 xp, .bool dy, .int .i64 lf, .int .i64 st, .int .i64 en] 30)).alloc (.cells #[.int .i64 q, .int .i64 p] 23)) := (((Below.refl _ w).alloc (by simp) _).alloc (by simp) _)
  have k0_0 : ((w.alloc (.cells #[.int .i64 mq, .int .i64 mp, .int .i64 xq, .int .i64 xp, .bool dy, .int .i64 lf, .int .i64 st, .int .i64 en] 30)).alloc (.cells #[.int .i64 q, .int .i64 p] 23)).cell? ⟨w.heap.size, 0, none⟩ = some (.int .i64 mq) := by simp
  have k0_1 : ((w.alloc (.cells #[.int .i64 mq, .int .i64 mp, .int .i64 xq, .int .i64 xp, .bool dy, .int .i64 lf, .int .i64 st, .int .i64 en] 30)).alloc (.cells #[.int .i64 q, .int .i64 p] 23)).cell? ⟨w.heap.size, 1, none⟩ = some (.int .i64 mp) := by simp
  have k0_2 : ((w.alloc (.cells #[.int .i64 mq, .int .i64 mp, .int .i64 xq, .int .i64 xp, .bool dy, .int .i64 lf, .int .i64 st, .int .i64 en] 30)).alloc (.cells #[.int .i64 q, .int .i64 p] 23)).cell? ⟨w.heap.size, 2, none⟩ = some (.int .i64 xq) := by simp
  have k0_3 : ((w.alloc (.cells #[.int .i64 mq, .int .i64 mp, .int .i64 xq, .int .i64 xp, .bool dy, .int .i64 lf, .int .i64 st, .int .i64 en] 30)).alloc (.cells #[.int .i64 q, .int .i64 p] 23)).cell? ⟨w.heap.size, 3, none⟩ = some (.int .i64 xp) := by simp
  have k0_4 : ((w.alloc (.cells #[.int .i64 mq, .int .i64 mp, .int .i64 xq, .int .i64 xp, .bool dy, .int .i64 lf, .int .i64 st, .int .i64 en] 30)).alloc (.cells #[.int .i64 q, .int .i64 p] 23)).cell? ⟨w.heap.size, 4, none⟩ = some (.bool dy) := by simp
  have k0_5 : ((w.alloc (.cells #[.int .i64 mq, .int .i64 mp, .int .i64 xq, .int .i64 xp, .bool dy, .int .i64 lf, .int .i64 st, .int .i64 en] 30)).alloc (.cells #[.int .i64 q, .int .i64 p] 23)).cell? ⟨w.heap.size, 5, none⟩ = some (.int .i64 lf) := by simp
  have k0_6 : ((w.alloc (.cells #[.int .i64 mq, .int .i64 mp, .int .i64 xq, .int .i64 xp, .bool dy, .int .i64 lf, .int .i64 st, .int .i64 en] 30)).alloc (.cells #[.int .i64 q, .int .i64 p] 23)).cell? ⟨w.heap.size, 6, none⟩ = some (.int .i64 st) := by simp
  have k0_7 : ((w.alloc (.cells #[.int .i64 mq, .int .i64 mp, .int .i64 xq, .int .i64 xp, .bool dy, .int .i64 lf, .int .i64 st, .int .i64 en] 30)).alloc (.cells #[.int .i64 q, .int .i64 p] 23)).cell? ⟨w.heap.size, 7, none⟩ = some (.int .i64 en) := by simp
  have k1_0 : ((w.alloc (.cells #[.int .i64 mq, .int .i64 mp, .int .i64 xq, .int .i64 xp, .bool dy, .int .i64 lf, .int .i64 st, .int .i64 en] 30)).alloc (.cells #[.int .i64 q, .int .i64 p] 23)).cell? ⟨w.heap.size + 1, 0, none⟩ = some (.int .i64 q) := by simp
  have k1_1 : ((w.alloc (.cells #[.int .i64 mq, .int .i64 mp, .int .i64 xq, .int .i64 xp, .bool dy, .int .i64 lf, .int .i64 st, .int .i64 en] 30)).alloc (.cells #[.int .i64 q, .int .i64 p] 23)).cell? ⟨w.heap.size + 1, 1, none⟩ = some (.int .i64 p) := by simp
  replace hL : Laid ((w.alloc (.cells #[.int .i64 mq, .int .i64 mp, .int .i64 xq, .int .i64 xp, .bool dy, .int .i64 lf, .int .i64 st, .int .i64 en] 30)).alloc (.cells #[.int .i64 q, .int .i64 p] 23)) := (hL.alloc _).alloc _
  go_enter Tryd.func8, Tryd.ntmps8
  go_wp2_with fail
  refine (brs_range mq mp xq xp dy lf st en q p _ h hr).mono ?_
  rintro e w1 ⟨rfl, hb1⟩
  replace k0_0 := keep hb1 k0_0
  replace k0_1 := keep hb1 k0_1
  replace k0_2 := keep hb1 k0_2
  replace k0_3 := keep hb1 k0_3
  replace k0_4 := keep hb1 k0_4
  replace k0_5 := keep hb1 k0_5
  replace k0_6 := keep hb1 k0_6
  replace k0_7 := keep hb1 k0_7
  replace k1_0 := keep hb1 k1_0
  replace k1_1 := keep hb1 k1_1
  replace hL := hL.below hb1
  replace HB := below_call HB (Nat.le_refl _) hb1
  clear hb1
  have hbA : Below w1.heap.size w1 (w1.alloc (.cells #[.int .i64 0, .int .i64 0, .int .i64 0, .int .i64 0, .bool false, .int .i64 0, .int .i64 0, .int .i64 0] 25)) := (Below.refl _ _).alloc (Nat.le_refl _) _
  replace k0_0 := keep hbA k0_0
  replace k0_1 := keep hbA k0_1
  replace k0_2 := keep hbA k0_2
  replace k0_3 := keep hbA k0_3
  replace k0_4 := keep hbA k0_4
  replace k0_5 := keep hbA k0_5
  replace k0_6 := keep hbA k0_6
  replace k0_7 := keep hbA k0_7
  replace k1_0 := keep hbA k1_0
  replace k1_1 := keep hbA k1_1
  replace hL := hL.below hbA
  replace HB := below_call HB (Nat.le_refl _) hbA
  clear hbA
  have u1_0 : (w1.alloc (.cells #[.int .i64 0, .int .i64 0, .int .i64 0, .int .i64 0, .bool false, .int .i64 0, .int .i64 0, .int .i64 0] 25)).cell? ⟨w1.heap.size, 0, none⟩ = some (.int .i64 0) := by simp
  have u1_1 : (w1.alloc (.cells #[.int .i64 0, .int .i64 0, .int .i64 0, .int .i64 0, .bool false, .int .i64 0, .int .i64 0, .int .i64 0] 25)).cell? ⟨w1.heap.size, 1, none⟩ = some (.int .i64 0) := by simp
  have u1_2 : (w1.alloc (.cells #[.int .i64 0, .int .i64 0, .int .i64 0, .int .i64 0, .bool false, .int .i64 0, .int .i64 0, .int .i64 0] 25)).cell? ⟨w1.heap.size, 2, none⟩ = some (.int .i64 0) := by simp
  have u1_3 : (w1.alloc (.cells #[.int .i64 0, .int .i64 0, .int .i64 0, .int .i64 0, .bool false, .int .i64 0, .int .i64 0, .int .i64 0] 25)).cell? ⟨w1.heap.size, 3, none⟩ = some (.int .i64 0) := by simp
  have u1_4 : (w1.alloc (.cells #[.int .i64 0, .int .i64 0, .int .i64 0, .int .i64 0, .bool false, .int .i64 0, .int .i64 0, .int .i64 0] 25)).cell? ⟨w1.heap.size, 4, none⟩ = some (.bool false) := by simp
  have u1_5 : (w1.alloc (.cells #[.int .i64 0, .int .i64 0, .int .i64 0, .int .i64 0, .bool false, .int .i64 0, .int .i64 0, .int .i64 0] 25)).cell? ⟨w1.heap.size, 5, none⟩ = some (.int .i64 0) := by simp
  have u1_6 : (w1.alloc (.cells #[.int .i64 0, .int .i64 0, .int .i64 0, .int .i64 0, .bool false, .int .i64 0, .int .i64 0, .int .i64 0] 25)).cell? ⟨w1.heap.size, 6, none⟩ = some (.int .i64 0) := by simp
  have u1_7 : (w1.alloc (.cells #[.int .i64 0, .int .i64 0, .int .i64 0, .int .i64 0, .bool false, .int .i64 0, .int .i64 0, .int .i64 0] 25)).cell? ⟨w1.heap.size, 7, none⟩ = some (.int .i64 0) := by simp
  go_wp2_with fail
  refine (rrs_range mq mp xq xp dy lf st en q p _ h hr).mono ?_
  rintro e w2 ⟨rfl, hb2⟩
  replace k0_0 := keep hb2 k0_0
  replace k0_1 := keep hb2 k0_1
  replace k0_2 := keep hb2 k0_2
  replace k0_3 := keep hb2 k0_3
  replace k0_4 := keep hb2 k0_4
  replace k0_5 := keep hb2 k0_5
  replace k0_6 := keep hb2 k0_6
  replace k0_7 := keep hb2 k0_7
  replace k1_0 := keep hb2 k1_0
  replace k1_1 := keep hb2 k1_1
  replace u1_0 := keep hb2 u1_0
  replace u1_1 := keep hb2 u1_1
  replace u1_2 := keep hb2 u1_2
  replace u1_3 := keep hb2 u1_3
  replace u1_4 := keep hb2 u1_4
  replace u1_5 := keep hb2 u1_5
  replace u1_6 := keep hb2 u1_6
  replace u1_7 := keep hb2 u1_7
  replace hL := hL.below hb2
  replace HB := below_call HB (Nat.le_refl _) hb2
  clear hb2
  have hbA : Below w2.heap.size w2 (w2.alloc (.cells #[.int .i64 0, .int .i64 0, .int .i64 0, .int .i64 0, .bool false, .int .i64 0, .int .i64 0, .int .i64 0] 30)) := (Below.refl _ _).alloc (Nat.le_refl _) _
  replace k0_0 := keep hbA k0_0
  replace k0_1 := keep hbA k0_1
  replace k0_2 := keep hbA k0_2
  replace k0_3 := keep hbA k0_3
  replace k0_4 := keep hbA k0_4
  replace k0_5 := keep hbA k0_5
  replace k0_6 := keep hbA k0_6
  replace k0_7 := keep hbA k0_7
  replace k1_0 := keep hbA k1_0
  replace k1_1 := keep hbA k1_1
  replace u1_0 := keep hbA u1_0
  replace u1_1 := keep hbA u1_1
  replace u1_2 := keep hbA u1_2
  replace u1_3 := keep hbA u1_3
  replace u1_4 := keep hbA u1_4
  replace u1_5 := keep hbA u1_5
  replace u1_6 := keep hbA u1_6
  replace u1_7 := keep hbA u1_7
  replace hL := hL.below hbA
  replace HB := below_call HB (Nat.le_refl _) hbA
  clear hbA
  have u2_0 : (w2.alloc (.cells #[.int .i64 0, .int .i64 0, .int .i64 0, .int .i64 0, .bool false, .int .i64 0, .int .i64 0, .int .i64 0] 30)).cell? ⟨w2.heap.size, 0, none⟩ = some (.int .i64 0) := by simp
  have u2_1 : (w2.alloc (.cells #[.int .i64 0, .int .i64 0, .int .i64 0, .int .i64 0, .bool false, .int .i64 0, .int .i64 0, .int .i64 0] 30)).cell? ⟨w2.heap.size, 1, none⟩ = some (.int .i64 0) := by simp
  have u2_2 : (w2.alloc (.cells #[.int .i64 0, .int .i64 0, .int .i64 0, .int .i64 0, .bool false, .int .i64 0, .int .i64 0, .int .i64 0] 30)).cell? ⟨w2.heap.size, 2, none⟩ = some (.int .i64 0) := by simp
  have u2_3 : (w2.alloc (.cells #[.int .i64 0, .int .i64 0, .int .i64 0, .int .i64 0, .bool false, .int .i64 0, .int .i64 0, .int .i64 0] 30)).cell? ⟨w2.heap.size, 3, none⟩ = some (.int .i64 0) := by simp
  have u2_4 : (w2.alloc (.cells #[.int .i64 0, .int .i64 0, .int .i64 0, .int .i64 0, .bool false, .int .i64 0, .int .i64 0, .int .i64 0] 30)).cell? ⟨w2.heap.size, 4, none⟩ = some (.bool false) := by simp
  have u2_5 : (w2.alloc (.cells #[.int .i64 0, .int .i64 0, .int .i64 0, .int .i64 0, .bool false, .int .i64 0, .int .i64 0, .int .i64 0] 30)).cell? ⟨w2.heap.size, 5, none⟩ = some (.int .i64 0) := by simp
  have u2_6 : (w2.alloc (.cells #[.int .i64 0, .int .i64 0, .int .i64 0, .int .i64 0, .bool false, .int .i64 0, .int .i64 0, .int .i64 0] 30)).cell? ⟨w2.heap.size, 6, none⟩ = some (.int .i64 0) := by simp
  have u2_7 : (w2.alloc (.cells #[.int .i64 0, .int .i64 0, .int .i64 0, .int .i64 0, .bool false, .int .i64 0, .int .i64 0, .int .i64 0] 30)).cell? ⟨w2.heap.size, 7, none⟩ = some (.int .i64 0) := by simp
  go_wp2_with fail
  refine (res_ok mq mp xq xp dy lf st en _ h).mono ?_
  rintro e w3 ⟨rfl, hb3⟩
  replace k0_0 := keep hb3 k0_0
  replace k0_1 := keep hb3 k0_1
  replace k0_2 := keep hb3 k0_2
  replace k0_3 := keep hb3 k0_3
  replace k0_4 := keep hb3 k0_4
  replace k0_5 := keep hb3 k0_5
  replace k0_6 := keep hb3 k0_6
  replace k0_7 := keep hb3 k0_7
  replace k1_0 := keep hb3 k1_0
  replace k1_1 := keep hb3 k1_1
  replace u1_0 := keep hb3 u1_0
  replace u1_1 := keep hb3 u1_1
  replace u1_2 := keep hb3 u1_2
  replace u1_3 := keep hb3 u1_3
  replace u1_4 := keep hb3 u1_4
  replace u1_5 := keep hb3 u1_5
  replace u1_6 := keep hb3 u1_6
  replace u1_7 := keep hb3 u1_7
  replace u2_0 := keep hb3 u2_0
  replace u2_1 := keep hb3 u2_1
  replace u2_2 := keep hb3 u2_2
  replace u2_3 := keep hb3 u2_3
  replace u2_4 := keep hb3 u2_4
  replace u2_5 := keep hb3 u2_5
  replace u2_6 := keep hb3 u2_6
  replace u2_7 := keep hb3 u2_7
  replace hL := hL.below hb3
  replace HB := below_call HB (Nat.le_refl _) hb3
  clear hb3
  go_wp2_with fail
  refine (rres_ok mq mp xq xp dy lf st en _ h).mono ?_
  rintro e w4 ⟨rfl, hb4⟩
  replace k0_0 := keep hb4 k0_0
  replace k0_1 := keep hb4 k0_1
  replace k0_2 := keep hb4 k0_2
  replace k0_3 := keep hb4 k0_3
  replace k0_4 := keep hb4 k0_4
  replace k0_5 := keep hb4 k0_5
  replace k0_6 := keep hb4 k0_6
  replace k0_7 := keep hb4 k0_7
  replace k1_0 := keep hb4 k1_0
  replace k1_1 := keep hb4 k1_1
  replace u1_0 := keep hb4 u1_0
  replace u1_1 := keep hb4 u1_1
  replace u1_2 := keep hb4 u1_2
  replace u1_3 := keep hb4 u1_3
  replace u1_4 := keep hb4 u1_4
  replace u1_5 := keep hb4 u1_5
  replace u1_6 := keep hb4 u1_6
  replace u1_7 := keep hb4 u1_7
  replace u2_0 := keep hb4 u2_0
  replace u2_1 := keep hb4 u2_1
  replace u2_2 := keep hb4 u2_2
  replace u2_3 := keep hb4 u2_3
  replace u2_4 := keep hb4 u2_4
  replace u2_5 := keep hb4 u2_5
  replace u2_6 := keep hb4 u2_6
  replace u2_7 := keep hb4 u2_7
  replace hL := hL.below hb4
  replace HB := below_call HB (Nat.le_refl _) hb4
  clear hb4
  go_wp2_with fail
  refine (same_refl 0 0 0 0 false 0 0 0 _).mono ?_
  rintro e w5 ⟨rfl, hb5⟩
  replace k0_0 := keep hb5 k0_0
  replace k0_1 := keep hb5 k0_1
  replace k0_2 := keep hb5 k0_2
  replace k0_3 := keep hb5 k0_3
  replace k0_4 := keep hb5 k0_4
  replace k0_5 := keep hb5 k0_5
  replace k0_6 := keep hb5 k0_6
  replace k0_7 := keep hb5 k0_7
  replace k1_0 := keep hb5 k1_0
  replace k1_1 := keep hb5 k1_1
  replace u1_0 := keep hb5 u1_0
  replace u1_1 := keep hb5 u1_1
  replace u1_2 := keep hb5 u1_2
  replace u1_3 := keep hb5 u1_3
  replace u1_4 := keep hb5 u1_4
  replace u1_5 := keep hb5 u1_5
  replace u1_6 := keep hb5 u1_6
  replace u1_7 := keep hb5 u1_7
  replace u2_0 := keep hb5 u2_0
  replace u2_1 := keep hb5 u2_1
  replace u2_2 := keep hb5 u2_2
  replace u2_3 := keep hb5 u2_3
  replace u2_4 := keep hb5 u2_4
  replace u2_5 := keep hb5 u2_5
  replace u2_6 := keep hb5 u2_6
  replace u2_7 := keep hb5 u2_7
  replace hL := hL.below hb5
  replace HB := below_call HB (Nat.le_refl _) hb5
  clear hb5
  go_wp2_with fail
  refine (num07_err 2 _ hL).mono ?_
  rintro e w6 ⟨rfl, hb6⟩
  replace k0_0 := keep hb6 k0_0
  replace k0_1 := keep hb6 k0_1
  replace k0_2 := keep hb6 k0_2
  replace k0_3 := keep hb6 k0_3
  replace k0_4 := keep hb6 k0_4
  replace k0_5 := keep hb6 k0_5
  replace k0_6 := keep hb6 k0_6
  replace k0_7 := keep hb6 k0_7
  replace k1_0 := keep hb6 k1_0
  replace k1_1 := keep hb6 k1_1
  replace u1_0 := keep hb6 u1_0
  replace u1_1 := keep hb6 u1_1
  replace u1_2 := keep hb6 u1_2
  replace u1_3 := keep hb6 u1_3
  replace u1_4 := keep hb6 u1_4
  replace u1_5 := keep hb6 u1_5
  replace u1_6 := keep hb6 u1_6
  replace u1_7 := keep hb6 u1_7
  replace u2_0 := keep hb6 u2_0
  replace u2_1 := keep hb6 u2_1
  replace u2_2 := keep hb6 u2_2
  replace u2_3 := keep hb6 u2_3
  replace u2_4 := keep hb6 u2_4
  replace u2_5 := keep hb6 u2_5
  replace u2_6 := keep hb6 u2_6
  replace u2_7 := keep hb6 u2_7
  replace hL := hL.below hb6
  replace HB := below_call HB (Nat.le_refl _) hb6
  clear hb6
  go_wp2_with fail
  refine (num07_nil _).mono ?_
  rintro e w7 ⟨rfl, hb7⟩
  replace k0_0 := keep hb7 k0_0
  replace k0_1 := keep hb7 k0_1
  replace k0_2 := keep hb7 k0_2
  replace k0_3 := keep hb7 k0_3
  replace k0_4 := keep hb7 k0_4
  replace k0_5 := keep hb7 k0_5
  replace k0_6 := keep hb7 k0_6
  replace k0_7 := keep hb7 k0_7
  replace k1_0 := keep hb7 k1_0
  replace k1_1 := keep hb7 k1_1
  replace u1_0 := keep hb7 u1_0
  replace u1_1 := keep hb7 u1_1
  replace u1_2 := keep hb7 u1_2
  replace u1_3 := keep hb7 u1_3
  replace u1_4 := keep hb7 u1_4
  replace u1_5 := keep hb7 u1_5
  replace u1_6 := keep hb7 u1_6
  replace u1_7 := keep hb7 u1_7
  replace u2_0 := keep hb7 u2_0
  replace u2_1 := keep hb7 u2_1
  replace u2_2 := keep hb7 u2_2
  replace u2_3 := keep hb7 u2_3
  replace u2_4 := keep hb7 u2_4
  replace u2_5 := keep hb7 u2_5
  replace u2_6 := keep hb7 u2_6
  replace u2_7 := keep hb7 u2_7
  replace hL := hL.below hb7
  replace HB := below_call HB (Nat.le_refl _) hb7
  clear hb7
  go_wp2_with fail
  refine (sure07 _).mono ?_
  rintro e w8 ⟨rfl, hb8⟩
  replace k0_0 := keep hb8 k0_0
  replace k0_1 := keep hb8 k0_1
  replace k0_2 := keep hb8 k0_2
  replace k0_3 := keep hb8 k0_3
  replace k0_4 := keep hb8 k0_4
  replace k0_5 := keep hb8 k0_5
  replace k0_6 := keep hb8 k0_6
  replace k0_7 := keep hb8 k0_7
  replace k1_0 := keep hb8 k1_0
  replace k1_1 := keep hb8 k1_1
  replace u1_0 := keep hb8 u1_0
  replace u1_1 := keep hb8 u1_1
  replace u1_2 := keep hb8 u1_2
  replace u1_3 := keep hb8 u1_3
  replace u1_4 := keep hb8 u1_4
  replace u1_5 := keep hb8 u1_5
  replace u1_6 := keep hb8 u1_6
  replace u1_7 := keep hb8 u1_7
  replace u2_0 := keep hb8 u2_0
  replace u2_1 := keep hb8 u2_1
  replace u2_2 := keep hb8 u2_2
  replace u2_3 := keep hb8 u2_3
  replace u2_4 := keep hb8 u2_4
  replace u2_5 := keep hb8 u2_5
  replace u2_6 := keep hb8 u2_6
  replace u2_7 := keep hb8 u2_7
  replace hL := hL.below hb8
  replace HB := below_call HB (Nat.le_refl _) hb8
  clear hb8
  go_wp2
  go_ret
  exact ⟨rfl, HB⟩

set_option maxHeartbeats 4000000 in
set_option maxRecDepth 100000 in
theorem rz_dying (mq mp xq xp : Int) (lf st en q p : Int) (w : World) (hL : Laid w) (h : BV mq mp xq xp lf st en) (hr : Vld q p) :
    Calls Tryd.prog 8 #[bud mq mp xq xp true lf st en, .agg #[.int .i64 q, .int .i64 p]] w fun e w' => e = .returned (.bool true) ∧ Below w.heap.size w w' := by
  have HB : Below w.heap.size w ((w.alloc (.cells #[.int .i64 mq, .int .i64 mp, .int .i64 xq, .int .i64 xp, .bool true, .int .i64 lf, .int .i64 st, .int .i64 en] 30)).alloc (.cells #[.int .i64 q, .int .i64 p] 23)) := (((Below.refl _ w).alloc (by simp) _).alloc (by simp) _)
  have k0_0 : ((w.alloc (.cells #[.int .i64 mq, .int .i64 mp, .int .i64 xq, .int .i64 xp, .bool true, .int .i64 lf, .int .i64 st, .int .i64 en] 30)).alloc (.cells #[.int .i64 q, .int .i64 p] 23)).cell? ⟨w.heap.size, 0, none⟩ = some (.int .i64 mq) := by simp
  have k0_1 : ((w.alloc (.cells #[.int .i64 mq, .int .i64 mp, .int .i64 xq, .int .i64 xp, .bool true, .int .i64 lf, .int .i64 st, .int .i64 en] 30)).alloc (.cells #[.int .i64 q, .int .i64 p] 23)).cell? ⟨w.heap.size, 1, none⟩ = some (.int .i64 mp) := by simp
  have k0_2 : ((w.alloc (.cells #[.int .i64 mq, .int .i64 mp, .int .i64 xq, .int .i64 xp, .bool true, .int .i64 lf, .int .i64 st, .int .i64 en] 30)).alloc (.cells #[.int .i64 q, .int .i64 p] 23)).cell? ⟨w.heap.size, 2, none⟩ = some (.int .i64 xq) := by simp
  have k0_3 : ((w.alloc (.cells #[.int .i64 mq, .int .i64 mp, .int .i64 xq, .int .i64 xp, .bool true, .int .i64 lf, .int .i64 st, .int .i64 en] 30)).alloc (.cells #[.int .i64 q, .int .i64 p] 23)).cell? ⟨w.heap.size, 3, none⟩ = some (.int .i64 xp) := by simp
  have k0_4 : ((w.alloc (.cells #[.int .i64 mq, .int .i64 mp, .int .i64 xq, .int .i64 xp, .bool true, .int .i64 lf, .int .i64 st, .int .i64 en] 30)).alloc (.cells #[.int .i64 q, .int .i64 p] 23)).cell? ⟨w.heap.size, 4, none⟩ = some (.bool true) := by simp
  have k0_5 : ((w.alloc (.cells #[.int .i64 mq, .int .i64 mp, .int .i64 xq, .int .i64 xp, .bool true, .int .i64 lf, .int .i64 st, .int .i64 en] 30)).alloc (.cells #[.int .i64 q, .int .i64 p] 23)).cell? ⟨w.heap.size, 5, none⟩ = some (.int .i64 lf) := by simp
  have k0_6 : ((w.alloc (.cells #[.int .i64 mq, .int .i64 mp, .int .i64 xq, .int .i64 xp, .bool true, .int .i64 lf, .int .i64 st, .int .i64 en] 30)).alloc (.cells #[.int .i64 q, .int .i64 p] 23)).cell? ⟨w.heap.size, 6, none⟩ = some (.int .i64 st) := by simp
  have k0_7 : ((w.alloc (.cells #[.int .i64 mq, .int .i64 mp, .int .i64 xq, .int .i64 xp, .bool true, .int .i64 lf, .int .i64 st, .int .i64 en] 30)).alloc (.cells #[.int .i64 q, .int .i64 p] 23)).cell? ⟨w.heap.size, 7, none⟩ = some (.int .i64 en) := by simp
  have k1_0 : ((w.alloc (.cells #[.int .i64 mq, .int .i64 mp, .int .i64 xq, .int .i64 xp, .bool true, .int .i64 lf, .int .i64 st, .int .i64 en] 30)).alloc (.cells #[.int .i64 q, .int .i64 p] 23)).cell? ⟨w.heap.size + 1, 0, none⟩ = some (.int .i64 q) := by simp
  have k1_1 : ((w.alloc (.cells #[.int .i64 mq, .int .i64 mp, .int .i64 xq, .int .i64 xp, .bool true, .int .i64 lf, .int .i64 st, .int .i64 en] 30)).alloc (.cells #[.int .i64 q, .int .i64 p] 23)).cell? ⟨w.heap.size + 1, 1, none⟩ = some (.int .i64 p) := by simp
  replace hL : Laid ((w.alloc (.cells #[.int .i64 mq, .int .i64 mp, .int .i64 xq, .int .i64 xp, .bool true, .int .i64 lf, .int .i64 st, .int .i64 en] 30)).alloc (.cells #[.int .i64 q, .int .i64 p] 23)) := (hL.alloc _).alloc _
  go_enter Tryd.func8, Tryd.ntmps8
  go_wp2_with fail
  refine (brs_dying mq mp xq xp lf st en q p _ h hr).mono ?_
  rintro e w1 ⟨rfl, hb1⟩
  replace k0_0 := keep hb1 k0_0
  replace k0_1 := keep hb1 k0_1
  replace k0_2 := keep hb1 k0_2
  replace k0_3 := keep hb1 k0_3
  replace k0_4 := keep hb1 k0_4
  replace k0_5 := keep hb1 k0_5
  replace k0_6 := keep hb1 k0_6
  replace k0_7 := keep hb1 k0_7
  replace k1_0 := keep hb1 k1_0
  replace k1_1 := keep hb1 k1_1
  replace hL := hL.below hb1
  replace HB := below_call HB (Nat.le_refl _) hb1
  clear hb1
  have hbA : Below w1.heap.size w1 (w1.alloc (.cells #[.int .i64 0, .int .i64 0, .int .i64 0, .int .i64 0, .bool false, .int .i64 0, .int .i64 0, .int .i64 0] 25)) := (Below.refl _ _).alloc (Nat.le_refl _) _
  replace k0_0 := keep hbA k0_0
  replace k0_1 := keep hbA k0_1
  replace k0_2 := keep hbA k0_2
  replace k0_3 := keep hbA k0_3
  replace k0_4 := keep hbA k0_4
  replace k0_5 := keep hbA k0_5
  replace k0_6 := keep hbA k0_6
  replace k0_7 := keep hbA k0_7
  replace k1_0 := keep hbA k1_0
  replace k1_1 := keep hbA k1_1
  replace hL := hL.below hbA
  replace HB := below_call HB (Nat.le_refl _) hbA
  clear hbA
  have u1_0 : (w1.alloc (.cells #[.int .i64 0, .int .i64 0, .int .i64 0, .int .i64 0, .bool false, .int .i64 0, .int .i64 0, .int .i64 0] 25)).cell? ⟨w1.heap.size, 0, none⟩ = some (.int .i64 0) := by simp
  have u1_1 : (w1.alloc (.cells #[.int .i64 0, .int .i64 0, .int .i64 0, .int .i64 0, .bool false, .int .i64 0, .int .i64 0, .int .i64 0] 25)).cell? ⟨w1.heap.size, 1, none⟩ = some (.int .i64 0) := by simp
  have u1_2 : (w1.alloc (.cells #[.int .i64 0, .int .i64 0, .int .i64 0, .int .i64 0, .bool false, .int .i64 0, .int .i64 0, .int .i64 0] 25)).cell? ⟨w1.heap.size, 2, none⟩ = some (.int .i64 0) := by simp
  have u1_3 : (w1.alloc (.cells #[.int .i64 0, .int .i64 0, .int .i64 0, .int .i64 0, .bool false, .int .i64 0, .int .i64 0, .int .i64 0] 25)).cell? ⟨w1.heap.size, 3, none⟩ = some (.int .i64 0) := by simp
  have u1_4 : (w1.alloc (.cells #[.int .i64 0, .int .i64 0, .int .i64 0, .int .i64 0, .bool false, .int .i64 0, .int .i64 0, .int .i64 0] 25)).cell? ⟨w1.heap.size, 4, none⟩ = some (.bool false) := by simp
  have u1_5 : (w1.alloc (.cells #[.int .i64 0, .int .i64 0, .int .i64 0, .int .i64 0, .bool false, .int .i64 0, .int .i64 0, .int .i64 0] 25)).cell? ⟨w1.heap.size, 5, none⟩ = some (.int .i64 0) := by simp
  have u1_6 : (w1.alloc (.cells #[.int .i64 0, .int .i64 0, .int .i64 0, .int .i64 0, .bool false, .int .i64 0, .int .i64 0, .int .i64 0] 25)).cell? ⟨w1.heap.size, 6, none⟩ = some (.int .i64 0) := by simp
  have u1_7 : (w1.alloc (.cells #[.int .i64 0, .int .i64 0, .int .i64 0, .int .i64 0, .bool false, .int .i64 0, .int .i64 0, .int .i64 0] 25)).cell? ⟨w1.heap.size, 7, none⟩ = some (.int .i64 0) := by simp
  go_wp2_with fail
  refine (rrs_dying mq mp xq xp lf st en q p _ h hr).mono ?_
  rintro e w2 ⟨rfl, hb2⟩
  replace k0_0 := keep hb2 k0_0
  replace k0_1 := keep hb2 k0_1
  replace k0_2 := keep hb2 k0_2
  replace k0_3 := keep hb2 k0_3
  replace k0_4 := keep hb2 k0_4
  replace k0_5 := keep hb2 k0_5
  replace k0_6 := keep hb2 k0_6
  replace k0_7 := keep hb2 k0_7
  replace k1_0 := keep hb2 k1_0
  replace k1_1 := keep hb2 k1_1
  replace u1_0 := keep hb2 u1_0
  replace u1_1 := keep hb2 u1_1
  replace u1_2 := keep hb2 u1_2
  replace u1_3 := keep hb2 u1_3
  replace u1_4 := keep hb2 u1_4
  replace u1_5 := keep hb2 u1_5
  replace u1_6 := keep hb2 u1_6
  replace u1_7 := keep hb2 u1_7
  replace hL := hL.below hb2
  replace HB := below_call HB (Nat.le_refl _) hb2
  clear hb2
  have hbA : Below w2.heap.size w2 (w2.alloc (.cells #[.int .i64 0, .int .i64 0, .int .i64 0, .int .i64 0, .bool false, .int .i64 0, .int .i64 0, .int .i64 0] 30)) := (Below.refl _ _).alloc (Nat.le_refl _) _
  replace k0_0 := keep hbA k0_0
  replace k0_1 := keep hbA k0_1
  replace k0_2 := keep hbA k0_2
  replace k0_3 := keep hbA k0_3
  replace k0_4 := keep hbA k0_4
  replace k0_5 := keep hbA k0_5
  replace k0_6 := keep hbA k0_6
  replace k0_7 := keep hbA k0_7
  replace k1_0 := keep hbA k1_0
  replace k1_1 := keep hbA k1_1
  replace u1_0 := keep hbA u1_0
  replace u1_1 := keep hbA u1_1
  replace u1_2 := keep hbA u1_2
  replace u1_3 := keep hbA u1_3
  replace u1_4 := keep hbA u1_4
  replace u1_5 := keep hbA u1_5
  replace u1_6 := keep hbA u1_6
  replace u1_7 := keep hbA u1_7
  replace hL := hL.below hbA
  replace HB := below_call HB (Nat.le_refl _) hbA
  clear hbA
  have u2_0 : (w2.alloc (.cells #[.int .i64 0, .int .i64 0, .int .i64 0, .int .i64 0, .bool false, .int .i64 0, .int .i64 0, .int .i64 0] 30)).cell? ⟨w2.heap.size, 0, none⟩ = some (.int .i64 0) := by simp
  have u2_1 : (w2.alloc (.cells #[.int .i64 0, .int .i64 0, .int .i64 0, .int .i64 0, .bool false, .int .i64 0, .int .i64 0, .int .i64 0] 30)).cell? ⟨w2.heap.size, 1, none⟩ = some (.int .i64 0) := by simp
  have u2_2 : (w2.alloc (.cells #[.int .i64 0, .int .i64 0, .int .i64 0, .int .i64 0, .bool false, .int .i64 0, .int .i64 0, .int .i64 0] 30)).cell? ⟨w2.heap.size, 2, none⟩ = some (.int .i64 0) := by simp
  have u2_3 : (w2.alloc (.cells #[.int .i64 0, .int .i64 0, .int .i64 0, .int .i64 0, .bool false, .int .i64 0, .int .i64 0, .int .i64 0] 30)).cell? ⟨w2.heap.size, 3, none⟩ = some (.int .i64 0) := by simp
  have u2_4 : (w2.alloc (.cells #[.int .i64 0, .int .i64 0, .int .i64 0, .int .i64 0, .bool false, .int .i64 0, .int .i64 0, .int .i64 0] 30)).cell? ⟨w2.heap.size, 4, none⟩ = some (.bool false) := by simp
  have u2_5 : (w2.alloc (.cells #[.int .i64 0, .int .i64 0, .int .i64 0, .int .i64 0, .bool false, .int .i64 0, .int .i64 0, .int .i64 0] 30)).cell? ⟨w2.heap.size, 5, none⟩ = some (.int .i64 0) := by simp
  have u2_6 : (w2.alloc (.cells #[.int .i64 0, .int .i64 0, .int .i64 0, .int .i64 0, .bool false, .int .i64 0, .int .i64 0, .int .i64 0] 30)).cell? ⟨w2.heap.size, 6, none⟩ = some (.int .i64 0) := by simp
  have u2_7 : (w2.alloc (.cells #[.int .i64 0, .int .i64 0, .int .i64 0, .int .i64 0, .bool false, .int .i64 0, .int .i64 0, .int .i64 0] 30)).cell? ⟨w2.heap.size, 7, none⟩ = some (.int .i64 0) := by simp
  go_wp2_with fail
  refine (res_ok mq mp xq xp true lf st en _ h).mono ?_
  rintro e w3 ⟨rfl, hb3⟩
  replace k0_0 := keep hb3 k0_0
  replace k0_1 := keep hb3 k0_1
  replace k0_2 := keep hb3 k0_2
  replace k0_3 := keep hb3 k0_3
  replace k0_4 := keep hb3 k0_4
  replace k0_5 := keep hb3 k0_5
  replace k0_6 := keep hb3 k0_6
  replace k0_7 := keep hb3 k0_7
  replace k1_0 := keep hb3 k1_0
  replace k1_1 := keep hb3 k1_1
  replace u1_0 := keep hb3 u1_0
  replace u1_1 := keep hb3 u1_1
  replace u1_2 := keep hb3 u1_2
  replace u1_3 := keep hb3 u1_3
  replace u1_4 := keep hb3 u1_4
  replace u1_5 := keep hb3 u1_5
  replace u1_6 := keep hb3 u1_6
  replace u1_7 := keep hb3 u1_7
  replace u2_0 := keep hb3 u2_0
  replace u2_1 := keep hb3 u2_1
  replace u2_2 := keep hb3 u2_2
  replace u2_3 := keep hb3 u2_3
  replace u2_4 := keep hb3 u2_4
  replace u2_5 := keep hb3 u2_5
  replace u2_6 := keep hb3 u2_6
  replace u2_7 := keep hb3 u2_7
  replace hL := hL.below hb3
  replace HB := below_call HB (Nat.le_refl _) hb3
  clear hb3
  go_wp2_with fail
  refine (rres_ok mq mp xq xp true lf st en _ h).mono ?_
  rintro e w4 ⟨rfl, hb4⟩
  replace k0_0 := keep hb4 k0_0
  replace k0_1 := keep hb4 k0_1
  replace k0_2 := keep hb4 k0_2
  replace k0_3 := keep hb4 k0_3
  replace k0_4 := keep hb4 k0_4
  replace k0_5 := keep hb4 k0_5
  replace k0_6 := keep hb4 k0_6
  replace k0_7 := keep hb4 k0_7
  replace k1_0 := keep hb4 k1_0
  replace k1_1 := keep hb4 k1_1
  replace u1_0 := keep hb4 u1_0
  replace u1_1 := keep hb4 u1_1
  replace u1_2 := keep hb4 u1_2
  replace u1_3 := keep hb4 u1_3
  replace u1_4 := keep hb4 u1_4
  replace u1_5 := keep hb4 u1_5
  replace u1_6 := keep hb4 u1_6
  replace u1_7 := keep hb4 u1_7
  replace u2_0 := keep hb4 u2_0
  replace u2_1 := keep hb4 u2_1
  replace u2_2 := keep hb4 u2_2
  replace u2_3 := keep hb4 u2_3
  replace u2_4 := keep hb4 u2_4
  replace u2_5 := keep hb4 u2_5
  replace u2_6 := keep hb4 u2_6
  replace u2_7 := keep hb4 u2_7
  replace hL := hL.below hb4
  replace HB := below_call HB (Nat.le_refl _) hb4
  clear hb4
  go_wp2_with fail
  refine (same_refl 0 0 0 0 false 0 0 0 _).mono ?_
  rintro e w5 ⟨rfl, hb5⟩
  replace k0_0 := keep hb5 k0_0
  replace k0_1 := keep hb5 k0_1
  replace k0_2 := keep hb5 k0_2
  replace k0_3 := keep hb5 k0_3
  replace k0_4 := keep hb5 k0_4
  replace k0_5 := keep hb5 k0_5
  replace k0_6 := keep hb5 k0_6
  replace k0_7 := keep hb5 k0_7
  replace k1_0 := keep hb5 k1_0
  replace k1_1 := keep hb5 k1_1
  replace u1_0 := keep hb5 u1_0
  replace u1_1 := keep hb5 u1_1
  replace u1_2 := keep hb5 u1_2
  replace u1_3 := keep hb5 u1_3
  replace u1_4 := keep hb5 u1_4
  replace u1_5 := keep hb5 u1_5
  replace u1_6 := keep hb5 u1_6
  replace u1_7 := keep hb5 u1_7
  replace u2_0 := keep hb5 u2_0
  replace u2_1 := keep hb5 u2_1
  replace u2_2 := keep hb5 u2_2
  replace u2_3 := keep hb5 u2_3
  replace u2_4 := keep hb5 u2_4
  replace u2_5 := keep hb5 u2_5
  replace u2_6 := keep hb5 u2_6
  replace u2_7 := keep hb5 u2_7
  replace hL := hL.below hb5
  replace HB := below_call HB (Nat.le_refl _) hb5
  clear hb5
  go_wp2_with fail
  refine (num07_err 92 _ hL).mono ?_
  rintro e w6 ⟨rfl, hb6⟩
  replace k0_0 := keep hb6 k0_0
  replace k0_1 := keep hb6 k0_1
  replace k0_2 := keep hb6 k0_2
  replace k0_3 := keep hb6 k0_3
  replace k0_4 := keep hb6 k0_4
  replace k0_5 := keep hb6 k0_5
  replace k0_6 := keep hb6 k0_6
  replace k0_7 := keep hb6 k0_7
  replace k1_0 := keep hb6 k1_0
  replace k1_1 := keep hb6 k1_1
  replace u1_0 := keep hb6 u1_0
  replace u1_1 := keep hb6 u1_1
  replace u1_2 := keep hb6 u1_2
  replace u1_3 := keep hb6 u1_3
  replace u1_4 := keep hb6 u1_4
  replace u1_5 := keep hb6 u1_5
  replace u1_6 := keep hb6 u1_6
  replace u1_7 := keep hb6 u1_7
  replace u2_0 := keep hb6 u2_0
  replace u2_1 := keep hb6 u2_1
  replace u2_2 := keep hb6 u2_2
  replace u2_3 := keep hb6 u2_3
  replace u2_4 := keep hb6 u2_4
  replace u2_5 := keep hb6 u2_5
  replace u2_6 := keep hb6 u2_6
  replace u2_7 := keep hb6 u2_7
  replace hL := hL.below hb6
  replace HB := below_call HB (Nat.le_refl _) hb6
  clear hb6
  go_wp2_with fail
  refine (num07_nil _).mono ?_
  rintro e w7 ⟨rfl, hb7⟩
  replace k0_0 := keep hb7 k0_0
  replace k0_1 := keep hb7 k0_1
  replace k0_2 := keep hb7 k0_2
  replace k0_3 := keep hb7 k0_3
  replace k0_4 := keep hb7 k0_4
  replace k0_5 := keep hb7 k0_5
  replace k0_6 := keep hb7 k0_6
  replace k0_7 := keep hb7 k0_7
  replace k1_0 := keep hb7 k1_0
  replace k1_1 := keep hb7 k1_1
  replace u1_0 := keep hb7 u1_0
  replace u1_1 := keep hb7 u1_1
  replace u1_2 := keep hb7 u1_2
  replace u1_3 := keep hb7 u1_3
  replace u1_4 := keep hb7 u1_4
  replace u1_5 := keep hb7 u1_5
  replace u1_6 := keep hb7 u1_6
  replace u1_7 := keep hb7 u1_7
  replace u2_0 := keep hb7 u2_0
  replace u2_1 := keep hb7 u2_1
  replace u2_2 := keep hb7 u2_2
  replace u2_3 := keep hb7 u2_3
  replace u2_4 := keep hb7 u2_4
  replace u2_5 := keep hb7 u2_5
  replace u2_6 := keep hb7 u2_6
  replace u2_7 := keep hb7 u2_7
  replace hL := hL.below hb7
  replace HB := below_call HB (Nat.le_refl _) hb7
  clear hb7
  go_wp2_with fail
  refine (sure07 _).mono ?_
  rintro e w8 ⟨rfl, hb8⟩
  replace k0_0 := keep hb8 k0_0
  replace k0_1 := keep hb8 k0_1
  replace k0_2 := keep hb8 k0_2
  replace k0_3 := keep hb8 k0_3
  replace k0_4 := keep hb8 k0_4
  replace k0_5 := keep hb8 k0_5
  replace k0_6 := keep hb8 k0_6
  replace k0_7 := keep hb8 k0_7
  replace k1_0 := keep hb8 k1_0
  replace k1_1 := keep hb8 k1_1
  replace u1_0 := keep hb8 u1_0
  replace u1_1 := keep hb8 u1_1
  replace u1_2 := keep hb8 u1_2
  replace u1_3 := keep hb8 u1_3
  replace u1_4 := keep hb8 u1_4
  replace u1_5 := keep hb8 u1_5
  replace u1_6 := keep hb8 u1_6
  replace u1_7 := keep hb8 u1_7
  replace u2_0 := keep hb8 u2_0
  replace u2_1 := keep hb8 u2_1
  replace u2_2 := keep hb8 u2_2
  replace u2_3 := keep hb8 u2_3
  replace u2_4 := keep hb8 u2_4
  replace u2_5 := keep hb8 u2_5
  replace u2_6 := keep hb8 u2_6
  replace u2_7 := keep hb8 u2_7
  replace hL := hL.below hb8
  replace HB := below_call HB (Nat.le_refl _) hb8
  clear hb8
  go_wp2
  go_ret
  exact ⟨rfl, HB⟩

set_option maxHeartbeats 4000000 in
set_option maxRecDepth 100000 in
theorem rz_new (mq mp xq xp : Int) (lf st en q p : Int) (w : World) (hL : Laid w) (h : BV mq mp xq xp lf st en) (hr : Vld q p) (hne : (q == mq && p == mp) = false) :
    Calls Tryd.prog 8 #[bud mq mp xq xp false lf st en, .agg #[.int .i64 q, .int .i64 p]] w fun e w' => e = .returned (.bool true) ∧ Below w.heap.size w w' := by
  have HB : Below w.heap.size w ((w.alloc (.cells #[.int .i64 mq, .int .i64 mp, .int .i64 xq, .int .i64 xp, .bool false, .int .i64 lf, .int .i64 st, .int .i64 en] 30)).alloc (.cells #[.int .i64 q, .int .i64 p] 23)) := (((Below.refl _ w).alloc (by simp) _).alloc (by simp) _)
  have k0_0 : ((w.alloc (.cells #[.int .i64 mq, .int .i64 mp, .int .i64 xq, .int .i64 xp, .bool false, .int .i64 lf, .int .i64 st, .int .i64 en] 30)).alloc (.cells #[.int .i64 q, .int .i64 p] 23)).cell? ⟨w.heap.size, 0, none⟩ = some (.int .i64 mq) := by simp
  have k0_1 : ((w.alloc (.cells #[.int .i64 mq, .int .i64 mp, .int .i64 xq, .int .i64 xp, .bool false, .int .i64 lf, .int .i64 st, .int .i64 en] 30)).alloc (.cells #[.int .i64 q, .int .i64 p] 23)).cell? ⟨w.heap.size, 1, none⟩ = some (.int .i64 mp) := by simp
  have k0_2 : ((w.alloc (.cells #[.int .i64 mq, .int .i64 mp, .int .i64 xq, .int .i64 xp, .bool false, .int .i64 lf, .int .i64 st, .int .i64 en] 30)).alloc (.cells #[.int .i64 q, .int .i64 p] 23)).cell? ⟨w.heap.size, 2, none⟩ = some (.int .i64 xq) := by simp
  have k0_3 : ((w.alloc (.cells #[.int .i64 mq, .int .i64 mp, .int .i64 xq, .int .i64 xp, .bool false, .int .i64 lf, .int .i64 st, .int .i64 en] 30)).alloc (.cells #[.int .i64 q, .int .i64 p] 23)).cell? ⟨w.heap.size, 3, none⟩ = some (.int .i64 xp) := by simp
  have k0_4 : ((w.alloc (.cells #[.int .i64 mq, .int .i64 mp, .int .i64 xq, .int .i64 xp, .bool false, .int .i64 lf, .int .i64 st, .int .i64 en] 30)).alloc (.cells #[.int .i64 q, .int .i64 p] 23)).cell? ⟨w.heap.size, 4, none⟩ = some (.bool false) := by simp
  have k0_5 : ((w.alloc (.cells #[.int .i64 mq, .int .i64 mp, .int .i64 xq, .int .i64 xp, .bool false, .int .i64 lf, .int .i64 st, .int .i64 en] 30)).alloc (.cells #[.int .i64 q, .int .i64 p] 23)).cell? ⟨w.heap.size, 5, none⟩ = some (.int .i64 lf) := by simp
  have k0_6 : ((w.alloc (.cells #[.int .i64 mq, .int .i64 mp, .int .i64 xq, .int .i64 xp, .bool false, .int .i64 lf, .int .i64 st, .int .i64 en] 30)).alloc (.cells #[.int .i64 q, .int .i64 p] 23)).cell? ⟨w.heap.size, 6, none⟩ = some (.int .i64 st) := by simp
  have k0_7 : ((w.alloc (.cells #[.int .i64 mq, .int .i64 mp, .int .i64 xq, .int .i64 xp, .bool false, .int .i64 lf, .int .i64 st, .int .i64 en] 30)).alloc (.cells #[.int .i64 q, .int .i64 p] 23)).cell? ⟨w.heap.size, 7, none⟩ = some (.int .i64 en) := by simp
  have k1_0 : ((w.alloc (.cells #[.int .i64 mq, .int .i64 mp, .int .i64 xq, .int .i64 xp, .bool false, .int .i64 lf, .int .i64 st, .int .i64 en] 30)).alloc (.cells #[.int .i64 q, .int .i64 p] 23)).cell? ⟨w.heap.size + 1, 0, none⟩ = some (.int .i64 q) := by simp
  have k1_1 : ((w.alloc (.cells #[.int .i64 mq, .int .i64 mp, .int .i64 xq, .int .i64 xp, .bool false, .int .i64 lf, .int .i64 st, .int .i64 en] 30)).alloc (.cells #[.int .i64 q, .int .i64 p] 23)).cell? ⟨w.heap.size + 1, 1, none⟩ = some (.int .i64 p) := by simp
  replace hL : Laid ((w.alloc (.cells #[.int .i64 mq, .int .i64 mp, .int .i64 xq, .int .i64 xp, .bool false, .int .i64 lf, .int .i64 st, .int .i64 en] 30)).alloc (.cells #[.int .i64 q, .int .i64 p] 23)) := (hL.alloc _).alloc _
  go_enter Tryd.func8, Tryd.ntmps8
  go_wp2_with fail
  refine (brs_new mq mp xq xp lf st en q p _ h hr hne).mono ?_
  rintro e w1 ⟨rfl, hb1⟩
  replace k0_0 := keep hb1 k0_0
  replace k0_1 := keep hb1 k0_1
  replace k0_2 := keep hb1 k0_2
  replace k0_3 := keep hb1 k0_3
  replace k0_4 := keep hb1 k0_4
  replace k0_5 := keep hb1 k0_5
  replace k0_6 := keep hb1 k0_6
  replace k0_7 := keep hb1 k0_7
  replace k1_0 := keep hb1 k1_0
  replace k1_1 := keep hb1 k1_1
  replace hL := hL.below hb1
  replace HB := below_call HB (Nat.le_refl _) hb1
  clear hb1
  have hbA : Below w1.heap.size w1 (w1.alloc (.cells #[.int .i64 mq, .int .i64 mp, .int .i64 q, .int .i64 p, .bool false, .int .i64 lf, .int .i64 st, .int .i64 en] 25)) := (Below.refl _ _).alloc (Nat.le_refl _) _
  replace k0_0 := keep hbA k0_0
  replace k0_1 := keep hbA k0_1
  replace k0_2 := keep hbA k0_2
  replace k0_3 := keep hbA k0_3
  replace k0_4 := keep hbA k0_4
  replace k0_5 := keep hbA k0_5
  replace k0_6 := keep hbA k0_6
  replace k0_7 := keep hbA k0_7
  replace k1_0 := keep hbA k1_0
  replace k1_1 := keep hbA k1_1
  replace hL := hL.below hbA
  replace HB := below_call HB (Nat.le_refl _) hbA
  clear hbA
  have u1_0 : (w1.alloc (.cells #[.int .i64 mq, .int .i64 mp, .int .i64 q, .int .i64 p, .bool false, .int .i64 lf, .int .i64 st, .int .i64 en] 25)).cell? ⟨w1.heap.size, 0, none⟩ = some (.int .i64 mq) := by simp
  have u1_1 : (w1.alloc (.cells #[.int .i64 mq, .int .i64 mp, .int .i64 q, .int .i64 p, .bool false, .int .i64 lf, .int .i64 st, .int .i64 en] 25)).cell? ⟨w1.heap.size, 1, none⟩ = some (.int .i64 mp) := by simp
  have u1_2 : (w1.alloc (.cells #[.int .i64 mq, .int .i64 mp, .int .i64 q, .int .i64 p, .bool false, .int .i64 lf, .int .i64 st, .int .i64 en] 25)).cell? ⟨w1.heap.size, 2, none⟩ = some (.int .i64 q) := by simp
  have u1_3 : (w1.alloc (.cells #[.int .i64 mq, .int .i64 mp, .int .i64 q, .int .i64 p, .bool false, .int .i64 lf, .int .i64 st, .int .i64 en] 25)).cell? ⟨w1.heap.size, 3, none⟩ = some (.int .i64 p) := by simp
  have u1_4 : (w1.alloc (.cells #[.int .i64 mq, .int .i64 mp, .int .i64 q, .int .i64 p, .bool false, .int .i64 lf, .int .i64 st, .int .i64 en] 25)).cell? ⟨w1.heap.size, 4, none⟩ = some (.bool false) := by simp
  have u1_5 : (w1.alloc (.cells #[.int .i64 mq, .int .i64 mp, .int .i64 q, .int .i64 p, .bool false, .int .i64 lf, .int .i64 st, .int .i64 en] 25)).cell? ⟨w1.heap.size, 5, none⟩ = some (.int .i64 lf) := by simp
  have u1_6 : (w1.alloc (.cells #[.int .i64 mq, .int .i64 mp, .int .i64 q, .int .i64 p, .bool false, .int .i64 lf, .int .i64 st, .int .i64 en] 25)).cell? ⟨w1.heap.size, 6, none⟩ = some (.int .i64 st) := by simp
  have u1_7 : (w1.alloc (.cells #[.int .i64 mq, .int .i64 mp, .int .i64 q, .int .i64 p, .bool false, .int .i64 lf, .int .i64 st, .int .i64 en] 25)).cell? ⟨w1.heap.size, 7, none⟩ = some (.int .i64 en) := by simp
  go_wp2_with fail
  refine (rrs_new mq mp xq xp lf st en q p _ h hr hne).mono ?_
  rintro e w2 ⟨rfl, hb2⟩
  replace k0_0 := keep hb2 k0_0
  replace k0_1 := keep hb2 k0_1
  replace k0_2 := keep hb2 k0_2
  replace k0_3 := keep hb2 k0_3
  replace k0_4 := keep hb2 k0_4
  replace k0_5 := keep hb2 k0_5
  replace k0_6 := keep hb2 k0_6
  replace k0_7 := keep hb2 k0_7
  replace k1_0 := keep hb2 k1_0
  replace k1_1 := keep hb2 k1_1
  replace u1_0 := keep hb2 u1_0
  replace u1_1 := keep hb2 u1_1
  replace u1_2 := keep hb2 u1_2
  replace u1_3 := keep hb2 u1_3
  replace u1_4 := keep hb2 u1_4
  replace u1_5 := keep hb2 u1_5
  replace u1_6 := keep hb2 u1_6
  replace u1_7 := keep hb2 u1_7
  replace hL := hL.below hb2
  replace HB := below_call HB (Nat.le_refl _) hb2
  clear hb2
  have hbA : Below w2.heap.size w2 (w2.alloc (.cells #[.int .i64 mq, .int .i64 mp, .int .i64 q, .int .i64 p, .bool false, .int .i64 lf, .int .i64 st, .int .i64 en] 30)) := (Below.refl _ _).alloc (Nat.le_refl _) _
  replace k0_0 := keep hbA k0_0
  replace k0_1 := keep hbA k0_1
  replace k0_2 := keep hbA k0_2
  replace k0_3 := keep hbA k0_3
  replace k0_4 := keep hbA k0_4
  replace k0_5 := keep hbA k0_5
  replace k0_6 := keep hbA k0_6
  replace k0_7 := keep hbA k0_7
  replace k1_0 := keep hbA k1_0
  replace k1_1 := keep hbA k1_1
  replace u1_0 := keep hbA u1_0
  replace u1_1 := keep hbA u1_1
  replace u1_2 := keep hbA u1_2
  replace u1_3 := keep hbA u1_3
  replace u1_4 := keep hbA u1_4
  replace u1_5 := keep hbA u1_5
  replace u1_6 := keep hbA u1_6
  replace u1_7 := keep hbA u1_7
  replace hL := hL.below hbA
  replace HB := below_call HB (Nat.le_refl _) hbA
  clear hbA
  have u2_0 : (w2.alloc (.cells #[.int .i64 mq, .int .i64 mp, .int .i64 q, .int .i64 p, .bool false, .int .i64 lf, .int .i64 st, .int .i64 en] 30)).cell? ⟨w2.heap.size, 0, none⟩ = some (.int .i64 mq) := by simp
  have u2_1 : (w2.alloc (.cells #[.int .i64 mq, .int .i64 mp, .int .i64 q, .int .i64 p, .bool false, .int .i64 lf, .int .i64 st, .int .i64 en] 30)).cell? ⟨w2.heap.size, 1, none⟩ = some (.int .i64 mp) := by simp
  have u2_2 : (w2.alloc (.cells #[.int .i64 mq, .int .i64 mp, .int .i64 q, .int .i64 p, .bool false, .int .i64 lf, .int .i64 st, .int .i64 en] 30)).cell? ⟨w2.heap.size, 2, none⟩ = some (.int .i64 q) := by simp
  have u2_3 : (w2.alloc (.cells #[.int .i64 mq, .int .i64 mp, .int .i64 q, .int .i64 p, .bool false, .int .i64 lf, .int .i64 st, .int .i64 en] 30)).cell? ⟨w2.heap.size, 3, none⟩ = some (.int .i64 p) := by simp
  have u2_4 : (w2.alloc (.cells #[.int .i64 mq, .int .i64 mp, .int .i64 q, .int .i64 p, .bool false, .int .i64 lf, .int .i64 st, .int .i64 en] 30)).cell? ⟨w2.heap.size, 4, none⟩ = some (.bool false) := by simp
  have u2_5 : (w2.alloc (.cells #[.int .i64 mq, .int .i64 mp, .int .i64 q, .int .i64 p, .bool false, .int .i64 lf, .int .i64 st, .int .i64 en] 30)).cell? ⟨w2.heap.size, 5, none⟩ = some (.int .i64 lf) := by simp
  have u2_6 : (w2.alloc (.cells #[.int .i64 mq, .int .i64 mp, .int .i64 q, .int .i64 p, .bool false, .int .i64 lf, .int .i64 st, .int .i64 en] 30)).cell? ⟨w2.heap.size, 6, none⟩ = some (.int .i64 st) := by simp
  have u2_7 : (w2.alloc (.cells #[.int .i64 mq, .int .i64 mp, .int .i64 q, .int .i64 p, .bool false, .int .i64 lf, .int .i64 st, .int .i64 en] 30)).cell? ⟨w2.heap.size, 7, none⟩ = some (.int .i64 en) := by simp
  go_wp2_with fail
  refine (res_ok mq mp xq xp false lf st en _ h).mono ?_
  rintro e w3 ⟨rfl, hb3⟩
  replace k0_0 := keep hb3 k0_0
  replace k0_1 := keep hb3 k0_1
  replace k0_2 := keep hb3 k0_2
  replace k0_3 := keep hb3 k0_3
  replace k0_4 := keep hb3 k0_4
  replace k0_5 := keep hb3 k0_5
  replace k0_6 := keep hb3 k0_6
  replace k0_7 := keep hb3 k0_7
  replace k1_0 := keep hb3 k1_0
  replace k1_1 := keep hb3 k1_1
  replace u1_0 := keep hb3 u1_0
  replace u1_1 := keep hb3 u1_1
  replace u1_2 := keep hb3 u1_2
  replace u1_3 := keep hb3 u1_3
  replace u1_4 := keep hb3 u1_4
  replace u1_5 := keep hb3 u1_5
  replace u1_6 := keep hb3 u1_6
  replace u1_7 := keep hb3 u1_7
  replace u2_0 := keep hb3 u2_0
  replace u2_1 := keep hb3 u2_1
  replace u2_2 := keep hb3 u2_2
  replace u2_3 := keep hb3 u2_3
  replace u2_4 := keep hb3 u2_4
  replace u2_5 := keep hb3 u2_5
  replace u2_6 := keep hb3 u2_6
  replace u2_7 := keep hb3 u2_7
  replace hL := hL.below hb3
  replace HB := below_call HB (Nat.le_refl _) hb3
  clear hb3
  go_wp2_with fail
  refine (rres_ok mq mp xq xp false lf st en _ h).mono ?_
  rintro e w4 ⟨rfl, hb4⟩
  replace k0_0 := keep hb4 k0_0
  replace k0_1 := keep hb4 k0_1
  replace k0_2 := keep hb4 k0_2
  replace k0_3 := keep hb4 k0_3
  replace k0_4 := keep hb4 k0_4
  replace k0_5 := keep hb4 k0_5
  replace k0_6 := keep hb4 k0_6
  replace k0_7 := keep hb4 k0_7
  replace k1_0 := keep hb4 k1_0
  replace k1_1 := keep hb4 k1_1
  replace u1_0 := keep hb4 u1_0
  replace u1_1 := keep hb4 u1_1
  replace u1_2 := keep hb4 u1_2
  replace u1_3 := keep hb4 u1_3
  replace u1_4 := keep hb4 u1_4
  replace u1_5 := keep hb4 u1_5
  replace u1_6 := keep hb4 u1_6
  replace u1_7 := keep hb4 u1_7
  replace u2_0 := keep hb4 u2_0
  replace u2_1 := keep hb4 u2_1
  replace u2_2 := keep hb4 u2_2
  replace u2_3 := keep hb4 u2_3
  replace u2_4 := keep hb4 u2_4
  replace u2_5 := keep hb4 u2_5
  replace u2_6 := keep hb4 u2_6
  replace u2_7 := keep hb4 u2_7
  replace hL := hL.below hb4
  replace HB := below_call HB (Nat.le_refl _) hb4
  clear hb4
  go_wp2_with fail
  refine (same_refl mq mp q p false lf st en _).mono ?_
  rintro e w5 ⟨rfl, hb5⟩
  replace k0_0 := keep hb5 k0_0
  replace k0_1 := keep hb5 k0_1
  replace k0_2 := keep hb5 k0_2
  replace k0_3 := keep hb5 k0_3
  replace k0_4 := keep hb5 k0_4
  replace k0_5 := keep hb5 k0_5
  replace k0_6 := keep hb5 k0_6
  replace k0_7 := keep hb5 k0_7
  replace k1_0 := keep hb5 k1_0
  replace k1_1 := keep hb5 k1_1
  replace u1_0 := keep hb5 u1_0
  replace u1_1 := keep hb5 u1_1
  replace u1_2 := keep hb5 u1_2
  replace u1_3 := keep hb5 u1_3
  replace u1_4 := keep hb5 u1_4
  replace u1_5 := keep hb5 u1_5
  replace u1_6 := keep hb5 u1_6
  replace u1_7 := keep hb5 u1_7
  replace u2_0 := keep hb5 u2_0
  replace u2_1 := keep hb5 u2_1
  replace u2_2 := keep hb5 u2_2
  replace u2_3 := keep hb5 u2_3
  replace u2_4 := keep hb5 u2_4
  replace u2_5 := keep hb5 u2_5
  replace u2_6 := keep hb5 u2_6
  replace u2_7 := keep hb5 u2_7
  replace hL := hL.below hb5
  replace HB := below_call HB (Nat.le_refl _) hb5
  clear hb5
  go_wp2_with fail
  refine (num07_nil _).mono ?_
  rintro e w6 ⟨rfl, hb6⟩
  replace k0_0 := keep hb6 k0_0
  replace k0_1 := keep hb6 k0_1
  replace k0_2 := keep hb6 k0_2
  replace k0_3 := keep hb6 k0_3
  replace k0_4 := keep hb6 k0_4
  replace k0_5 := keep hb6 k0_5
  replace k0_6 := keep hb6 k0_6
  replace k0_7 := keep hb6 k0_7
  replace k1_0 := keep hb6 k1_0
  replace k1_1 := keep hb6 k1_1
  replace u1_0 := keep hb6 u1_0
  replace u1_1 := keep hb6 u1_1
  replace u1_2 := keep hb6 u1_2
  replace u1_3 := keep hb6 u1_3
  replace u1_4 := keep hb6 u1_4
  replace u1_5 := keep hb6 u1_5
  replace u1_6 := keep hb6 u1_6
  replace u1_7 := keep hb6 u1_7
  replace u2_0 := keep hb6 u2_0
  replace u2_1 := keep hb6 u2_1
  replace u2_2 := keep hb6 u2_2
  replace u2_3 := keep hb6 u2_3
  replace u2_4 := keep hb6 u2_4
  replace u2_5 := keep hb6 u2_5
  replace u2_6 := keep hb6 u2_6
  replace u2_7 := keep hb6 u2_7
  replace hL := hL.below hb6
  replace HB := below_call HB (Nat.le_refl _) hb6
  clear hb6
  go_wp2_with fail
  refine (num07_nil _).mono ?_
  rintro e w7 ⟨rfl, hb7⟩
  replace k0_0 := keep hb7 k0_0
  replace k0_1 := keep hb7 k0_1
  replace k0_2 := keep hb7 k0_2
  replace k0_3 := keep hb7 k0_3
  replace k0_4 := keep hb7 k0_4
  replace k0_5 := keep hb7 k0_5
  replace k0_6 := keep hb7 k0_6
  replace k0_7 := keep hb7 k0_7
  replace k1_0 := keep hb7 k1_0
  replace k1_1 := keep hb7 k1_1
  replace u1_0 := keep hb7 u1_0
  replace u1_1 := keep hb7 u1_1
  replace u1_2 := keep hb7 u1_2
  replace u1_3 := keep hb7 u1_3
  replace u1_4 := keep hb7 u1_4
  replace u1_5 := keep hb7 u1_5
  replace u1_6 := keep hb7 u1_6
  replace u1_7 := keep hb7 u1_7
  replace u2_0 := keep hb7 u2_0
  replace u2_1 := keep hb7 u2_1
  replace u2_2 := keep hb7 u2_2
  replace u2_3 := keep hb7 u2_3
  replace u2_4 := keep hb7 u2_4
  replace u2_5 := keep hb7 u2_5
  replace u2_6 := keep hb7 u2_6
  replace u2_7 := keep hb7 u2_7
  replace hL := hL.below hb7
  replace HB := below_call HB (Nat.le_refl _) hb7
  clear hb7
  go_wp2_with fail
  refine (sure07 _).mono ?_
  rintro e w8 ⟨rfl, hb8⟩
  replace k0_0 := keep hb8 k0_0
  replace k0_1 := keep hb8 k0_1
  replace k0_2 := keep hb8 k0_2
  replace k0_3 := keep hb8 k0_3
  replace k0_4 := keep hb8 k0_4
  replace k0_5 := keep hb8 k0_5
  replace k0_6 := keep hb8 k0_6
  replace k0_7 := keep hb8 k0_7
  replace k1_0 := keep hb8 k1_0
  replace k1_1 := keep hb8 k1_1
  replace u1_0 := keep hb8 u1_0
  replace u1_1 := keep hb8 u1_1
  replace u1_2 := keep hb8 u1_2
  replace u1_3 := keep hb8 u1_3
  replace u1_4 := keep hb8 u1_4
  replace u1_5 := keep hb8 u1_5
  replace u1_6 := keep hb8 u1_6
  replace u1_7 := keep hb8 u1_7
  replace u2_0 := keep hb8 u2_0
  replace u2_1 := keep hb8 u2_1
  replace u2_2 := keep hb8 u2_2
  replace u2_3 := keep hb8 u2_3
  replace u2_4 := keep hb8 u2_4
  replace u2_5 := keep hb8 u2_5
  replace u2_6 := keep hb8 u2_6
  replace u2_7 := keep hb8 u2_7
  replace hL := hL.below hb8
  replace HB := below_call HB (Nat.le_refl _) hb8
  clear hb8
  go_wp2
  go_ret
  exact ⟨rfl, HB⟩

set_option maxHeartbeats 4000000 in
set_option maxRecDepth 100000 in
theorem rz_same (mq mp xq xp : Int) (lf st en : Int) (w : World) (hL : Laid w) (h : BV mq mp xq xp lf st en) :
    Calls Tryd.prog 8 #[bud mq mp xq xp false lf st en, .agg #[.int .i64 mq, .int .i64 mp]] w fun e w' => e = .returned (.bool true) ∧ Below w.heap.size w w' := by
  have HB : Below w.heap.size w ((w.alloc (.cells #[.int .i64 mq, .int .i64 mp, .int .i64 xq, .int .i64 xp, .bool false, .int .i64 lf, .int .i64 st, .int .i64 en] 30)).alloc (.cells #[.int .i64 mq, .int .i64 mp] 23)) := (((Below.refl _ w).alloc (by simp) _).alloc (by simp) _)
  have k0_0 : ((w.alloc (.cells #[.int .i64 mq, .int .i64 mp, .int .i64 xq, .int .i64 xp, .bool false, .int .i64 lf, .int .i64 st, .int .i64 en] 30)).alloc (.cells #[.int .i64 mq, .int .i64 mp] 23)).cell? ⟨w.heap.size, 0, none⟩ = some (.int .i64 mq) := by simp
  have k0_1 : ((w.alloc (.cells #[.int .i64 mq, .int .i64 mp, .int .i64 xq, .int .i64 xp, .bool false, .int .i64 lf, .int .i64 st, .int .i64 en] 30)).alloc (.cells #[.int .i64 mq, .int .i64 mp] 23)).cell? ⟨w.heap.size, 1, none⟩ = some (.int .i64 mp) := by simp
  have k0_2 : ((w.alloc (.cells #[.int .i64 mq, .int .i64 mp, .int .i64 xq, .int .i64 xp, .bool false, .int .i64 lf, .int .i64 st, .int .i64 en] 30)).alloc (.cells #[.int .i64 mq, .int .i64 mp] 23)).cell? ⟨w.heap.size, 2, none⟩ = some (.int .i64 xq) := by simp
  have k0_3 : ((w.alloc (.cells #[.int .i64 mq, .int .i64 mp, .int .i64 xq, .int .i64 xp, .bool false, .int .i64 lf, .int .i64 st, .int .i64 en] 30)).alloc (.cells #[.int .i64 mq, .int .i64 mp] 23)).cell? ⟨w.heap.size, 3, none⟩ = some (.int .i64 xp) := by simp
  have k0_4 : ((w.alloc (.cells #[.int .i64 mq, .int .i64 mp, .int .i64 xq, .int .i64 xp, .bool false, .int .i64 lf, .int .i64 st, .int .i64 en] 30)).alloc (.cells #[.int .i64 mq, .int .i64 mp] 23)).cell? ⟨w.heap.size, 4, none⟩ = some (.bool false) := by simp
  have k0_5 : ((w.alloc (.cells #[.int .i64 mq, .int .i64 mp, .int .i64 xq, .int .i64 xp, .bool false, .int .i64 lf, .int .i64 st, .int .i64 en] 30)).alloc (.cells #[.int .i64 mq, .int .i64 mp] 23)).cell? ⟨w.heap.size, 5, none⟩ = some (.int .i64 lf) := by simp
  have k0_6 : ((w.alloc (.cells #[.int .i64 mq, .int .i64 mp, .int .i64 xq, .int .i64 xp, .bool false, .int .i64 lf, .int .i64 st, .int .i64 en] 30)).alloc (.cells #[.int .i64 mq, .int .i64 mp] 23)).cell? ⟨w.heap.size, 6, none⟩ = some (.int .i64 st) := by simp
  have k0_7 : ((w.alloc (.cells #[.int .i64 mq, .int .i64 mp, .int .i64 xq, .int .i64 xp, .bool false, .int .i64 lf, .int .i64 st, .int .i64 en] 30)).alloc (.cells #[.int .i64 mq, .int .i64 mp] 23)).cell? ⟨w.heap.size, 7, none⟩ = some (.int .i64 en) := by simp
  have k1_0 : ((w.alloc (.cells #[.int .i64 mq, .int .i64 mp, .int .i64 xq, .int .i64 xp, .bool false, .int .i64 lf, .int .i64 st, .int .i64 en] 30)).alloc (.cells #[.int .i64 mq, .int .i64 mp] 23)).cell? ⟨w.heap.size + 1, 0, none⟩ = some (.int .i64 mq) := by simp
  have k1_1 : ((w.alloc (.cells #[.int .i64 mq, .int .i64 mp, .int .i64 xq, .int .i64 xp, .bool false, .int .i64 lf, .int .i64 st, .int .i64 en] 30)).alloc (.cells #[.int .i64 mq, .int .i64 mp] 23)).cell? ⟨w.heap.size + 1, 1, none⟩ = some (.int .i64 mp) := by simp
  replace hL : Laid ((w.alloc (.cells #[.int .i64 mq, .int .i64 mp, .int .i64 xq, .int .i64 xp, .bool false, .int .i64 lf, .int .i64 st, .int .i64 en] 30)).alloc (.cells #[.int .i64 mq, .int .i64 mp] 23)) := (hL.alloc _).alloc _
  go_enter Tryd.func8, Tryd.ntmps8
  go_wp2_with fail
  refine (brs_same mq mp xq xp lf st en _ h).mono ?_
  rintro e w1 ⟨rfl, hb1⟩
  replace k0_0 := keep hb1 k0_0
  replace k0_1 := keep hb1 k0_1
  replace k0_2 := keep hb1 k0_2
  replace k0_3 := keep hb1 k0_3
  replace k0_4 := keep hb1 k0_4
  replace k0_5 := keep hb1 k0_5
  replace k0_6 := keep hb1 k0_6
  replace k0_7 := keep hb1 k0_7
  replace k1_0 := keep hb1 k1_0
  replace k1_1 := keep hb1 k1_1
  replace hL := hL.below hb1
  replace HB := below_call HB (Nat.le_refl _) hb1
  clear hb1
  have hbA : Below w1.heap.size w1 (w1.alloc (.cells #[.int .i64 mq, .int .i64 mp, .int .i64 0, .int .i64 0, .bool false, .int .i64 lf, .int .i64 st, .int .i64 en] 25)) := (Below.refl _ _).alloc (Nat.le_refl _) _
  replace k0_0 := keep hbA k0_0
  replace k0_1 := keep hbA k0_1
  replace k0_2 := keep hbA k0_2
  replace k0_3 := keep hbA k0_3
  replace k0_4 := keep hbA k0_4
  replace k0_5 := keep hbA k0_5
  replace k0_6 := keep hbA k0_6
  replace k0_7 := keep hbA k0_7
  replace k1_0 := keep hbA k1_0
  replace k1_1 := keep hbA k1_1
  replace hL := hL.below hbA
  replace HB := below_call HB (Nat.le_refl _) hbA
  clear hbA
  have u1_0 : (w1.alloc (.cells #[.int .i64 mq, .int .i64 mp, .int .i64 0, .int .i64 0, .bool false, .int .i64 lf, .int .i64 st, .int .i64 en] 25)).cell? ⟨w1.heap.size, 0, none⟩ = some (.int .i64 mq) := by simp
  have u1_1 : (w1.alloc (.cells #[.int .i64 mq, .int .i64 mp, .int .i64 0, .int .i64 0, .bool false, .int .i64 lf, .int .i64 st, .int .i64 en] 25)).cell? ⟨w1.heap.size, 1, none⟩ = some (.int .i64 mp) := by simp
  have u1_2 : (w1.alloc (.cells #[.int .i64 mq, .int .i64 mp, .int .i64 0, .int .i64 0, .bool false, .int .i64 lf, .int .i64 st, .int .i64 en] 25)).cell? ⟨w1.heap.size, 2, none⟩ = some (.int .i64 0) := by simp
  have u1_3 : (w1.alloc (.cells #[.int .i64 mq, .int .i64 mp, .int .i64 0, .int .i64 0, .bool false, .int .i64 lf, .int .i64 st, .int .i64 en] 25)).cell? ⟨w1.heap.size, 3, none⟩ = some (.int .i64 0) := by simp
  have u1_4 : (w1.alloc (.cells #[.int .i64 mq, .int .i64 mp, .int .i64 0, .int .i64 0, .bool false, .int .i64 lf, .int .i64 st, .int .i64 en] 25)).cell? ⟨w1.heap.size, 4, none⟩ = some (.bool false) := by simp
  have u1_5 : (w1.alloc (.cells #[.int .i64 mq, .int .i64 mp, .int .i64 0, .int .i64 0, .bool false, .int .i64 lf, .int .i64 st, .int .i64 en] 25)).cell? ⟨w1.heap.size, 5, none⟩ = some (.int .i64 lf) := by simp
  have u1_6 : (w1.alloc (.cells #[.int .i64 mq, .int .i64 mp, .int .i64 0, .int .i64 0, .bool false, .int .i64 lf, .int .i64 st, .int .i64 en] 25)).cell? ⟨w1.heap.size, 6, none⟩ = some (.int .i64 st) := by simp
  have u1_7 : (w1.alloc (.cells #[.int .i64 mq, .int .i64 mp, .int .i64 0, .int .i64 0, .bool false, .int .i64 lf, .int .i64 st, .int .i64 en] 25)).cell? ⟨w1.heap.size, 7, none⟩ = some (.int .i64 en) := by simp
  go_wp2_with fail
  refine (rrs_same mq mp xq xp lf st en _ h).mono ?_
  rintro e w2 ⟨rfl, hb2⟩
  replace k0_0 := keep hb2 k0_0
  replace k0_1 := keep hb2 k0_1
  replace k0_2 := keep hb2 k0_2
  replace k0_3 := keep hb2 k0_3
  replace k0_4 := keep hb2 k0_4
  replace k0_5 := keep hb2 k0_5
  replace k0_6 := keep hb2 k0_6
  replace k0_7 := keep hb2 k0_7
  replace k1_0 := keep hb2 k1_0
  replace k1_1 := keep hb2 k1_1
  replace u1_0 := keep hb2 u1_0
  replace u1_1 := keep hb2 u1_1
  replace u1_2 := keep hb2 u1_2
  replace u1_3 := keep hb2 u1_3
  replace u1_4 := keep hb2 u1_4
  replace u1_5 := keep hb2 u1_5
  replace u1_6 := keep hb2 u1_6
  replace u1_7 := keep hb2 u1_7
  replace hL := hL.below hb2
  replace HB := below_call HB (Nat.le_refl _) hb2
  clear hb2
  have hbA : Below w2.heap.size w2 (w2.alloc (.cells #[.int .i64 mq, .int .i64 mp, .int .i64 0, .int .i64 0, .bool false, .int .i64 lf, .int .i64 st, .int .i64 en] 30)) := (Below.refl _ _).alloc (Nat.le_refl _) _
  replace k0_0 := keep hbA k0_0
  replace k0_1 := keep hbA k0_1
  replace k0_2 := keep hbA k0_2
  replace k0_3 := keep hbA k0_3
  replace k0_4 := keep hbA k0_4
  replace k0_5 := keep hbA k0_5
  replace k0_6 := keep hbA k0_6
  replace k0_7 := keep hbA k0_7
  replace k1_0 := keep hbA k1_0
  replace k1_1 := keep hbA k1_1
  replace u1_0 := keep hbA u1_0
  replace u1_1 := keep hbA u1_1
  replace u1_2 := keep hbA u1_2
  replace u1_3 := keep hbA u1_3
  replace u1_4 := keep hbA u1_4
  replace u1_5 := keep hbA u1_5
  replace u1_6 := keep hbA u1_6
  replace u1_7 := keep hbA u1_7
  replace hL := hL.below hbA
  replace HB := below_call HB (Nat.le_refl _) hbA
  clear hbA
  have u2_0 : (w2.alloc (.cells #[.int .i64 mq, .int .i64 mp, .int .i64 0, .int .i64 0, .bool false, .int .i64 lf, .int .i64 st, .int .i64 en] 30)).cell? ⟨w2.heap.size, 0, none⟩ = some (.int .i64 mq) := by simp
  have u2_1 : (w2.alloc (.cells #[.int .i64 mq, .int .i64 mp, .int .i64 0, .int .i64 0, .bool false, .int .i64 lf, .int .i64 st, .int .i64 en] 30)).cell? ⟨w2.heap.size, 1, none⟩ = some (.int .i64 mp) := by simp
  have u2_2 : (w2.alloc (.cells #[.int .i64 mq, .int .i64 mp, .int .i64 0, .int .i64 0, .bool false, .int .i64 lf, .int .i64 st, .int .i64 en] 30)).cell? ⟨w2.heap.size, 2, none⟩ = some (.int .i64 0) := by simp
  have u2_3 : (w2.alloc (.cells #[.int .i64 mq, .int .i64 mp, .int .i64 0, .int .i64 0, .bool false, .int .i64 lf, .int .i64 st, .int .i64 en] 30)).cell? ⟨w2.heap.size, 3, none⟩ = some (.int .i64 0) := by simp
  have u2_4 : (w2.alloc (.cells #[.int .i64 mq, .int .i64 mp, .int .i64 0, .int .i64 0, .bool false, .int .i64 lf, .int .i64 st, .int .i64 en] 30)).cell? ⟨w2.heap.size, 4, none⟩ = some (.bool false) := by simp
  have u2_5 : (w2.alloc (.cells #[.int .i64 mq, .int .i64 mp, .int .i64 0, .int .i64 0, .bool false, .int .i64 lf, .int .i64 st, .int .i64 en] 30)).cell? ⟨w2.heap.size, 5, none⟩ = some (.int .i64 lf) := by simp
  have u2_6 : (w2.alloc (.cells #[.int .i64 mq, .int .i64 mp, .int .i64 0, .int .i64 0, .bool false, .int .i64 lf, .int .i64 st, .int .i64 en] 30)).cell? ⟨w2.heap.size, 6, none⟩ = some (.int .i64 st) := by simp
  have u2_7 : (w2.alloc (.cells #[.int .i64 mq, .int .i64 mp, .int .i64 0, .int .i64 0, .bool false, .int .i64 lf, .int .i64 st, .int .i64 en] 30)).cell? ⟨w2.heap.size, 7, none⟩ = some (.int .i64 en) := by simp
  go_wp2_with fail
  refine (res_ok mq mp xq xp false lf st en _ h).mono ?_
  rintro e w3 ⟨rfl, hb3⟩
  replace k0_0 := keep hb3 k0_0
  replace k0_1 := keep hb3 k0_1
  replace k0_2 := keep hb3 k0_2
  replace k0_3 := keep hb3 k0_3
  replace k0_4 := keep hb3 k0_4
  replace k0_5 := keep hb3 k0_5
  replace k0_6 := keep hb3 k0_6
  replace k0_7 := keep hb3 k0_7
  replace k1_0 := keep hb3 k1_0
  replace k1_1 := keep hb3 k1_1
  replace u1_0 := keep hb3 u1_0
  replace u1_1 := keep hb3 u1_1
  replace u1_2 := keep hb3 u1_2
  replace u1_3 := keep hb3 u1_3
  replace u1_4 := keep hb3 u1_4
  replace u1_5 := keep hb3 u1_5
  replace u1_6 := keep hb3 u1_6
  replace u1_7 := keep hb3 u1_7
  replace u2_0 := keep hb3 u2_0
  replace u2_1 := keep hb3 u2_1
  replace u2_2 := keep hb3 u2_2
  replace u2_3 := keep hb3 u2_3
  replace u2_4 := keep hb3 u2_4
  replace u2_5 := keep hb3 u2_5
  replace u2_6 := keep hb3 u2_6
  replace u2_7 := keep hb3 u2_7
  replace hL := hL.below hb3
  replace HB := below_call HB (Nat.le_refl _) hb3
  clear hb3
  go_wp2_with fail
  refine (rres_ok mq mp xq xp false lf st en _ h).mono ?_
  rintro e w4 ⟨rfl, hb4⟩
  replace k0_0 := keep hb4 k0_0
  replace k0_1 := keep hb4 k0_1
  replace k0_2 := keep hb4 k0_2
  replace k0_3 := keep hb4 k0_3
  replace k0_4 := keep hb4 k0_4
  replace k0_5 := keep hb4 k0_5
  replace k0_6 := keep hb4 k0_6
  replace k0_7 := keep hb4 k0_7
  replace k1_0 := keep hb4 k1_0
  replace k1_1 := keep hb4 k1_1
  replace u1_0 := keep hb4 u1_0
  replace u1_1 := keep hb4 u1_1
  replace u1_2 := keep hb4 u1_2
  replace u1_3 := keep hb4 u1_3
  replace u1_4 := keep hb4 u1_4
  replace u1_5 := keep hb4 u1_5
  replace u1_6 := keep hb4 u1_6
  replace u1_7 := keep hb4 u1_7
  replace u2_0 := keep hb4 u2_0
  replace u2_1 := keep hb4 u2_1
  replace u2_2 := keep hb4 u2_2
  replace u2_3 := keep hb4 u2_3
  replace u2_4 := keep hb4 u2_4
  replace u2_5 := keep hb4 u2_5
  replace u2_6 := keep hb4 u2_6
  replace u2_7 := keep hb4 u2_7
  replace hL := hL.below hb4
  replace HB := below_call HB (Nat.le_refl _) hb4
  clear hb4
  go_wp2_with fail
  refine (same_refl mq mp 0 0 false lf st en _).mono ?_
  rintro e w5 ⟨rfl, hb5⟩
  replace k0_0 := keep hb5 k0_0
  replace k0_1 := keep hb5 k0_1
  replace k0_2 := keep hb5 k0_2
  replace k0_3 := keep hb5 k0_3
  replace k0_4 := keep hb5 k0_4
  replace k0_5 := keep hb5 k0_5
  replace k0_6 := keep hb5 k0_6
  replace k0_7 := keep hb5 k0_7
  replace k1_0 := keep hb5 k1_0
  replace k1_1 := keep hb5 k1_1
  replace u1_0 := keep hb5 u1_0
  replace u1_1 := keep hb5 u1_1
  replace u1_2 := keep hb5 u1_2
  replace u1_3 := keep hb5 u1_3
  replace u1_4 := keep hb5 u1_4
  replace u1_5 := keep hb5 u1_5
  replace u1_6 := keep hb5 u1_6
  replace u1_7 := keep hb5 u1_7
  replace u2_0 := keep hb5 u2_0
  replace u2_1 := keep hb5 u2_1
  replace u2_2 := keep hb5 u2_2
  replace u2_3 := keep hb5 u2_3
  replace u2_4 := keep hb5 u2_4
  replace u2_5 := keep hb5 u2_5
  replace u2_6 := keep hb5 u2_6
  replace u2_7 := keep hb5 u2_7
  replace hL := hL.below hb5
  replace HB := below_call HB (Nat.le_refl _) hb5
  clear hb5
  go_wp2_with fail
  refine (num07_nil _).mono ?_
  rintro e w6 ⟨rfl, hb6⟩
  replace k0_0 := keep hb6 k0_0
  replace k0_1 := keep hb6 k0_1
  replace k0_2 := keep hb6 k0_2
  replace k0_3 := keep hb6 k0_3
  replace k0_4 := keep hb6 k0_4
  replace k0_5 := keep hb6 k0_5
  replace k0_6 := keep hb6 k0_6
  replace k0_7 := keep hb6 k0_7
  replace k1_0 := keep hb6 k1_0
  replace k1_1 := keep hb6 k1_1
  replace u1_0 := keep hb6 u1_0
  replace u1_1 := keep hb6 u1_1
  replace u1_2 := keep hb6 u1_2
  replace u1_3 := keep hb6 u1_3
  replace u1_4 := keep hb6 u1_4
  replace u1_5 := keep hb6 u1_5
  replace u1_6 := keep hb6 u1_6
  replace u1_7 := keep hb6 u1_7
  replace u2_0 := keep hb6 u2_0
  replace u2_1 := keep hb6 u2_1
  replace u2_2 := keep hb6 u2_2
  replace u2_3 := keep hb6 u2_3
  replace u2_4 := keep hb6 u2_4
  replace u2_5 := keep hb6 u2_5
  replace u2_6 := keep hb6 u2_6
  replace u2_7 := keep hb6 u2_7
  replace hL := hL.below hb6
  replace HB := below_call HB (Nat.le_refl _) hb6
  clear hb6
  go_wp2_with fail
  refine (num07_nil _).mono ?_
  rintro e w7 ⟨rfl, hb7⟩
  replace k0_0 := keep hb7 k0_0
  replace k0_1 := keep hb7 k0_1
  replace k0_2 := keep hb7 k0_2
  replace k0_3 := keep hb7 k0_3
  replace k0_4 := keep hb7 k0_4
  replace k0_5 := keep hb7 k0_5
  replace k0_6 := keep hb7 k0_6
  replace k0_7 := keep hb7 k0_7
  replace k1_0 := keep hb7 k1_0
  replace k1_1 := keep hb7 k1_1
  replace u1_0 := keep hb7 u1_0
  replace u1_1 := keep hb7 u1_1
  replace u1_2 := keep hb7 u1_2
  replace u1_3 := keep hb7 u1_3
  replace u1_4 := keep hb7 u1_4
  replace u1_5 := keep hb7 u1_5
  replace u1_6 := keep hb7 u1_6
  replace u1_7 := keep hb7 u1_7
  replace u2_0 := keep hb7 u2_0
  replace u2_1 := keep hb7 u2_1
  replace u2_2 := keep hb7 u2_2
  replace u2_3 := keep hb7 u2_3
  replace u2_4 := keep hb7 u2_4
  replace u2_5 := keep hb7 u2_5
  replace u2_6 := keep hb7 u2_6
  replace u2_7 := keep hb7 u2_7
  replace hL := hL.below hb7
  replace HB := below_call HB (Nat.le_refl _) hb7
  clear hb7
  go_wp2_with fail
  refine (sure07 _).mono ?_
  rintro e w8 ⟨rfl, hb8⟩
  replace k0_0 := keep hb8 k0_0
  replace k0_1 := keep hb8 k0_1
  replace k0_2 := keep hb8 k0_2
  replace k0_3 := keep hb8 k0_3
  replace k0_4 := keep hb8 k0_4
  replace k0_5 := keep hb8 k0_5
  replace k0_6 := keep hb8 k0_6
  replace k0_7 := keep hb8 k0_7
  replace k1_0 := keep hb8 k1_0
  replace k1_1 := keep hb8 k1_1
  replace u1_0 := keep hb8 u1_0
  replace u1_1 := keep hb8 u1_1
  replace u1_2 := keep hb8 u1_2
  replace u1_3 := keep hb8 u1_3
  replace u1_4 := keep hb8 u1_4
  replace u1_5 := keep hb8 u1_5
  replace u1_6 := keep hb8 u1_6
  replace u1_7 := keep hb8 u1_7
  replace u2_0 := keep hb8 u2_0
  replace u2_1 := keep hb8 u2_1
  replace u2_2 := keep hb8 u2_2
  replace u2_3 := keep hb8 u2_3
  replace u2_4 := keep hb8 u2_4
  replace u2_5 := keep hb8 u2_5
  replace u2_6 := keep hb8 u2_6
  replace u2_7 := keep hb8 u2_7
  replace hL := hL.below hb8
  replace HB := below_call HB (Nat.le_refl _) hb8
  clear hb8
  go_wp2
  go_ret
  exact ⟨rfl, HB⟩

theorem rz_any (mq mp xq xp : Int) (dy : Bool) (lf st en q p : Int) (w : World) (hL : Laid w) :
    Calls Tryd.prog 8 #[bud mq mp xq xp dy lf st en, .agg #[.int .i64 q, .int .i64 p]] w fun e w' => e = .returned (.bool true) ∧ Below w.heap.size w w' := by
  by_cases h : BV mq mp xq xp lf st en
  · by_cases hr : Vld q p
    · cases dy
      · by_cases e : q = mq ∧ p = mp
        · obtain ⟨rfl, rfl⟩ := e
          exact rz_same q p xq xp lf st en w hL h
        · have hne : (q == mq && p == mp) = false := by
            rw [Bool.eq_false_iff]
            intro k
            simp only [Bool.and_eq_true, beq_iff_eq] at k
            exact e k
          exact rz_new mq mp xq xp lf st en q p w hL h hr hne
      · exact rz_dying mq mp xq xp lf st en q p w hL h hr
    · exact rz_range mq mp xq xp dy lf st en q p w hL h hr
  · exact rz_bad mq mp xq xp dy lf st en q p w hL h

end Go.Proofs.YtggcahcdhjnemaaDoor
