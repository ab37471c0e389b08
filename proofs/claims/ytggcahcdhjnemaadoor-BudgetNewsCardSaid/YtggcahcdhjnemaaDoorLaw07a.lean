/- The walk of BudgetNews: the call returns true. -/
import Derived.Test.YtggcahcdhjnemaaDoorBud5
import Derived.Test.YtggcahcdhjnemaaDoorNum07
set_option linter.unusedVariables false
set_option linter.unusedSimpArgs false
namespace Go.Proofs.YtggcahcdhjnemaaDoor
open Go.RowKit

set_option maxHeartbeats 2000000 in
set_option maxRecDepth 100000 in
theorem news_ok (q p at_ : Int) (w : World) (hL : Laid w) (h0 : 0 ≤ at_) (h1 : at_ ≤ 1073741824) (h : Vld q p) :
    Calls Tryd.prog 3 #[.agg #[.int .i64 q, .int .i64 p], .int .i64 at_] w fun e w' => e = .returned (.bool true) ∧ Below w.heap.size w w' := by
  have HB : Below w.heap.size w (w.alloc (.cells #[.int .i64 q, .int .i64 p] 23)) := ((Below.refl _ w).alloc (by simp) _)
  have k0_0 : (w.alloc (.cells #[.int .i64 q, .int .i64 p] 23)).cell? ⟨w.heap.size, 0, none⟩ = some (.int .i64 q) := by simp
  have k0_1 : (w.alloc (.cells #[.int .i64 q, .int .i64 p] 23)).cell? ⟨w.heap.size, 1, none⟩ = some (.int .i64 p) := by simp
  replace hL : Laid (w.alloc (.cells #[.int .i64 q, .int .i64 p] 23)) := hL.alloc _
  go_enter Tryd.func3, Tryd.ntmps3
  go_wp2_with fail
  refine (bnew_ok q p at_ _ h0 h1 h).mono ?_
  rintro e w1 ⟨rfl, hb1⟩
  replace k0_0 := keep hb1 k0_0
  replace k0_1 := keep hb1 k0_1
  replace hL := hL.below hb1
  replace HB := below_call HB (Nat.le_refl _) hb1
  clear hb1
  have hbA : Below w1.heap.size w1 (w1.alloc (.cells #[.int .i64 q, .int .i64 p, .int .i64 0, .int .i64 0, .bool false, .int .i64 q, .int .i64 at_, .int .i64 (at_ + p)] 25)) := (Below.refl _ _).alloc (Nat.le_refl _) _
  replace k0_0 := keep hbA k0_0
  replace k0_1 := keep hbA k0_1
  replace hL := hL.below hbA
  replace HB := below_call HB (Nat.le_refl _) hbA
  clear hbA
  have u1_0 : (w1.alloc (.cells #[.int .i64 q, .int .i64 p, .int .i64 0, .int .i64 0, .bool false, .int .i64 q, .int .i64 at_, .int .i64 (at_ + p)] 25)).cell? ⟨w1.heap.size, 0, none⟩ = some (.int .i64 q) := by simp
  have u1_1 : (w1.alloc (.cells #[.int .i64 q, .int .i64 p, .int .i64 0, .int .i64 0, .bool false, .int .i64 q, .int .i64 at_, .int .i64 (at_ + p)] 25)).cell? ⟨w1.heap.size, 1, none⟩ = some (.int .i64 p) := by simp
  have u1_2 : (w1.alloc (.cells #[.int .i64 q, .int .i64 p, .int .i64 0, .int .i64 0, .bool false, .int .i64 q, .int .i64 at_, .int .i64 (at_ + p)] 25)).cell? ⟨w1.heap.size, 2, none⟩ = some (.int .i64 0) := by simp
  have u1_3 : (w1.alloc (.cells #[.int .i64 q, .int .i64 p, .int .i64 0, .int .i64 0, .bool false, .int .i64 q, .int .i64 at_, .int .i64 (at_ + p)] 25)).cell? ⟨w1.heap.size, 3, none⟩ = some (.int .i64 0) := by simp
  have u1_4 : (w1.alloc (.cells #[.int .i64 q, .int .i64 p, .int .i64 0, .int .i64 0, .bool false, .int .i64 q, .int .i64 at_, .int .i64 (at_ + p)] 25)).cell? ⟨w1.heap.size, 4, none⟩ = some (.bool false) := by simp
  have u1_5 : (w1.alloc (.cells #[.int .i64 q, .int .i64 p, .int .i64 0, .int .i64 0, .bool false, .int .i64 q, .int .i64 at_, .int .i64 (at_ + p)] 25)).cell? ⟨w1.heap.size, 5, none⟩ = some (.int .i64 q) := by simp
  have u1_6 : (w1.alloc (.cells #[.int .i64 q, .int .i64 p, .int .i64 0, .int .i64 0, .bool false, .int .i64 q, .int .i64 at_, .int .i64 (at_ + p)] 25)).cell? ⟨w1.heap.size, 6, none⟩ = some (.int .i64 at_) := by simp
  have u1_7 : (w1.alloc (.cells #[.int .i64 q, .int .i64 p, .int .i64 0, .int .i64 0, .bool false, .int .i64 q, .int .i64 at_, .int .i64 (at_ + p)] 25)).cell? ⟨w1.heap.size, 7, none⟩ = some (.int .i64 (at_ + p)) := by simp
  go_wp2_with fail
  refine (rbnew_ok q p at_ _ h0 h1 h).mono ?_
  rintro e w2 ⟨rfl, hb2⟩
  replace k0_0 := keep hb2 k0_0
  replace k0_1 := keep hb2 k0_1
  replace u1_0 := keep hb2 u1_0
  replace u1_1 := keep hb2 u1_1
  replace u1_2 := keep hb2 u1_2
  replace u1_3 := keep hb2 u1_3
  replace u1_4 := keep hb2 u1_4
  replace u1_5 := keep hb2 u1_5
  replace u1_6 := keep hb2 u1_6
  replace u1_7 := keep hb2 u1_7
  replace hL := hL.below hb2
  replace HB := below_call HB (Nat.le_refl _) hb2
  clear hb2
  have hbA : Below w2.heap.size w2 (w2.alloc (.cells #[.int .i64 q, .int .i64 p, .int .i64 0, .int .i64 0, .bool false, .int .i64 q, .int .i64 at_, .int .i64 (at_ + p)] 30)) := (Below.refl _ _).alloc (Nat.le_refl _) _
  replace k0_0 := keep hbA k0_0
  replace k0_1 := keep hbA k0_1
  replace u1_0 := keep hbA u1_0
  replace u1_1 := keep hbA u1_1
  replace u1_2 := keep hbA u1_2
  replace u1_3 := keep hbA u1_3
  replace u1_4 := keep hbA u1_4
  replace u1_5 := keep hbA u1_5
  replace u1_6 := keep hbA u1_6
  replace u1_7 := keep hbA u1_7
  replace hL := hL.below hbA
  replace HB := below_call HB (Nat.le_refl _) hbA
  clear hbA
  have u2_0 : (w2.alloc (.cells #[.int .i64 q, .int .i64 p, .int .i64 0, .int .i64 0, .bool false, .int .i64 q, .int .i64 at_, .int .i64 (at_ + p)] 30)).cell? ⟨w2.heap.size, 0, none⟩ = some (.int .i64 q) := by simp
  have u2_1 : (w2.alloc (.cells #[.int .i64 q, .int .i64 p, .int .i64 0, .int .i64 0, .bool false, .int .i64 q, .int .i64 at_, .int .i64 (at_ + p)] 30)).cell? ⟨w2.heap.size, 1, none⟩ = some (.int .i64 p) := by simp
  have u2_2 : (w2.alloc (.cells #[.int .i64 q, .int .i64 p, .int .i64 0, .int .i64 0, .bool false, .int .i64 q, .int .i64 at_, .int .i64 (at_ + p)] 30)).cell? ⟨w2.heap.size, 2, none⟩ = some (.int .i64 0) := by simp
  have u2_3 : (w2.alloc (.cells #[.int .i64 q, .int .i64 p, .int .i64 0, .int .i64 0, .bool false, .int .i64 q, .int .i64 at_, .int .i64 (at_ + p)] 30)).cell? ⟨w2.heap.size, 3, none⟩ = some (.int .i64 0) := by simp
  have u2_4 : (w2.alloc (.cells #[.int .i64 q, .int .i64 p, .int .i64 0, .int .i64 0, .bool false, .int .i64 q, .int .i64 at_, .int .i64 (at_ + p)] 30)).cell? ⟨w2.heap.size, 4, none⟩ = some (.bool false) := by simp
  have u2_5 : (w2.alloc (.cells #[.int .i64 q, .int .i64 p, .int .i64 0, .int .i64 0, .bool false, .int .i64 q, .int .i64 at_, .int .i64 (at_ + p)] 30)).cell? ⟨w2.heap.size, 5, none⟩ = some (.int .i64 q) := by simp
  have u2_6 : (w2.alloc (.cells #[.int .i64 q, .int .i64 p, .int .i64 0, .int .i64 0, .bool false, .int .i64 q, .int .i64 at_, .int .i64 (at_ + p)] 30)).cell? ⟨w2.heap.size, 6, none⟩ = some (.int .i64 at_) := by simp
  have u2_7 : (w2.alloc (.cells #[.int .i64 q, .int .i64 p, .int .i64 0, .int .i64 0, .bool false, .int .i64 q, .int .i64 at_, .int .i64 (at_ + p)] 30)).cell? ⟨w2.heap.size, 7, none⟩ = some (.int .i64 (at_ + p)) := by simp
  go_wp2_with fail
  refine (same_refl q p 0 0 false q at_ (at_ + p) _).mono ?_
  rintro e w3 ⟨rfl, hb3⟩
  replace k0_0 := keep hb3 k0_0
  replace k0_1 := keep hb3 k0_1
  replace u1_0 := keep hb3 u1_0
  replace u1_1 := keep hb3 u1_1
  replace u1_2 := keep hb3 u1_2
  replace u1_3 := keep hb3 u1_3
  replace u1_4 := keep hb3 u1_4
  replace u1_5 := keep hb3 u1_5
  replace u1_6 := keep hb3 u1_6
  replace u1_7 := keep hb3 u1_7
  replace u2_0 := keep hb3 u2_0
  replace u2_1 := keep hb3 u2_1
  replace u2_2 := keep hb3 u2_2
  replace u2_3 := keep hb3 u2_3
  replace u2_4 := keep hb3 u2_4
  replace u2_5 := keep hb3 u2_5
  replace u2_6 := keep hb3 u2_6
  replace u2_7 := keep hb3 u2_7
  replace hL := hL.below hb3
  replace HB := below_call HB (Nat.le_refl _) hb3
  clear hb3
  go_wp2_with fail
  refine (num07_nil _).mono ?_
  rintro e w4 ⟨rfl, hb4⟩
  replace k0_0 := keep hb4 k0_0
  replace k0_1 := keep hb4 k0_1
  replace u1_0 := keep hb4 u1_0
  replace u1_1 := keep hb4 u1_1
  replace u1_2 := keep hb4 u1_2
  replace u1_3 := keep hb4 u1_3
  replace u1_4 := keep hb4 u1_4
  replace u1_5 := keep hb4 u1_5
  replace u1_6 := keep hb4 u1_6
  replace u1_7 := keep hb4 u1_7
  replace u2_0 := keep hb4 u2_0
  replace u2_1 := keep hb4 u2_1
  replace u2_2 := keep hb4 u2_2
  replace u2_3 := keep hb4 u2_3
  replace u2_4 := keep hb4 u2_4
  replace u2_5 := keep hb4 u2_5
  replace u2_6 := keep hb4 u2_6
  replace u2_7 := keep hb4 u2_7
  replace hL := hL.below hb4
  replace HB := below_call HB (Nat.le_refl _) hb4
  clear hb4
  go_wp2_with fail
  refine (sure07 _).mono ?_
  rintro e w5 ⟨rfl, hb5⟩
  replace k0_0 := keep hb5 k0_0
  replace k0_1 := keep hb5 k0_1
  replace u1_0 := keep hb5 u1_0
  replace u1_1 := keep hb5 u1_1
  replace u1_2 := keep hb5 u1_2
  replace u1_3 := keep hb5 u1_3
  replace u1_4 := keep hb5 u1_4
  replace u1_5 := keep hb5 u1_5
  replace u1_6 := keep hb5 u1_6
  replace u1_7 := keep hb5 u1_7
  replace u2_0 := keep hb5 u2_0
  replace u2_1 := keep hb5 u2_1
  replace u2_2 := keep hb5 u2_2
  replace u2_3 := keep hb5 u2_3
  replace u2_4 := keep hb5 u2_4
  replace u2_5 := keep hb5 u2_5
  replace u2_6 := keep hb5 u2_6
  replace u2_7 := keep hb5 u2_7
  replace hL := hL.below hb5
  replace HB := below_call HB (Nat.le_refl _) hb5
  clear hb5
  go_wp2
  go_ret
  exact ⟨rfl, HB⟩

set_option maxHeartbeats 2000000 in
set_option maxRecDepth 100000 in
theorem news_neg (q p at_ : Int) (w : World) (hL : Laid w) (h0 : at_ < 0) :
    Calls Tryd.prog 3 #[.agg #[.int .i64 q, .int .i64 p], .int .i64 at_] w fun e w' => e = .returned (.bool true) ∧ Below w.heap.size w w' := by
  have HB : Below w.heap.size w (w.alloc (.cells #[.int .i64 q, .int .i64 p] 23)) := ((Below.refl _ w).alloc (by simp) _)
  have k0_0 : (w.alloc (.cells #[.int .i64 q, .int .i64 p] 23)).cell? ⟨w.heap.size, 0, none⟩ = some (.int .i64 q) := by simp
  have k0_1 : (w.alloc (.cells #[.int .i64 q, .int .i64 p] 23)).cell? ⟨w.heap.size, 1, none⟩ = some (.int .i64 p) := by simp
  replace hL : Laid (w.alloc (.cells #[.int .i64 q, .int .i64 p] 23)) := hL.alloc _
  go_enter Tryd.func3, Tryd.ntmps3
  go_wp2_with fail
  refine (bnew_neg q p at_ _ h0).mono ?_
  rintro e w1 ⟨rfl, hb1⟩
  replace k0_0 := keep hb1 k0_0
  replace k0_1 := keep hb1 k0_1
  replace hL := hL.below hb1
  replace HB := below_call HB (Nat.le_refl _) hb1
  clear hb1
  have hbA : Below w1.heap.size w1 (w1.alloc (.cells #[.int .i64 0, .int .i64 0, .int .i64 0, .int .i64 0, .bool false, .int .i64 0, .int .i64 0, .int .i64 0] 25)) := (Below.refl _ _).alloc (Nat.le_refl _) _
  replace k0_0 := keep hbA k0_0
  replace k0_1 := keep hbA k0_1
  replace hL := hL.below hbA
  replace HB := below_call HB (Nat.le_refl _) hbA
  clear hbA
  have u1_0 : (w1.alloc (.cells #[.int .i64 0, .int .i64 0, .int .i64 0, .int .i64 0, .bool false, .int .i64 0, .int .i64 0, .int .i64 0] 25)).cell? ⟨w1.heap.size, 0, none⟩ = some (.int .i64 0) := by simp
  have u1_1 : (w1.alloc (.cells #[.int .i64 0, .int .i64 0, .int .i64 0, .int .i64 0, .bool false, .int .i64 0, .int .i64 0, .int .i64 0] 25)).cell? ⟨w1.heap.size, 1, none⟩ = some (.int .i64 0) := by simp
  have u1_2 : (w1.alloc (.cells #[.int .i64 0, .int .i64 0, .int .i64 0, .int .i64 0, .bool false, .int .i64 0, .int .i64 0, .int .i64 0] 25)).cell? ⟨w1.heap.size, 2, none⟩ = some (.int .i64 0) := by simp
  have u1_3 : (w1.alloc (.cells #[.int .i64 0, .int .i64 0, .int .i64 0, .int .i64 0, .bool false, .int .i64 0, .int .i64 0, .int .i64 0] 25)).cell? ⟨w1.heap.size, 3, none⟩ = some (.int .i64 0) := by simp
  have u1_4 : (w1.alloc (.cells #[.int .i64 0, .int .i64 0, .int .i64 0, .int .i64 0, .bool false, .int .i64 0, .int .i64 0, .int .i64 0] 25)).cell? ⟨w1.heap.size, 4, none⟩ = some (.bool false) := by simp
  have u1_5 : (w1.alloc (.cells #[.int .i64 0, .int .i64 0, .int .i64 0, .int .i64 0, .bool false, .int .i64 0, .int .i64 0, .int .i64 0] 25)).cell? ⟨w1.heap.size, 5, none⟩ = some (.int .i64 0) := by simp
  have u1_6 : (w1.alloc (.cells #[.int .i64 0, .int .i64 0, .int .i64 0, .int .i64 0, .bool false, .int .i64 0, .int .i64 0, .int .i64 0] 25)).cell? ⟨w1.heap.size, 6, none⟩ = some (.int .i64 0) := by simp
  have u1_7 : (w1.alloc (.cells #[.int .i64 0, .int .i64 0, .int .i64 0, .int .i64 0, .bool false, .int .i64 0, .int .i64 0, .int .i64 0] 25)).cell? ⟨w1.heap.size, 7, none⟩ = some (.int .i64 0) := by simp
  go_wp2_with fail
  refine (rbnew_neg q p at_ _ h0).mono ?_
  rintro e w2 ⟨rfl, hb2⟩
  replace k0_0 := keep hb2 k0_0
  replace k0_1 := keep hb2 k0_1
  replace u1_0 := keep hb2 u1_0
  replace u1_1 := keep hb2 u1_1
  replace u1_2 := keep hb2 u1_2
  replace u1_3 := keep hb2 u1_3
  replace u1_4 := keep hb2 u1_4
  replace u1_5 := keep hb2 u1_5
  replace u1_6 := keep hb2 u1_6
  replace u1_7 := keep hb2 u1_7
  replace hL := hL.below hb2
  replace HB := below_call HB (Nat.le_refl _) hb2
  clear hb2
  have hbA : Below w2.heap.size w2 (w2.alloc (.cells #[.int .i64 0, .int .i64 0, .int .i64 0, .int .i64 0, .bool false, .int .i64 0, .int .i64 0, .int .i64 0] 30)) := (Below.refl _ _).alloc (Nat.le_refl _) _
  replace k0_0 := keep hbA k0_0
  replace k0_1 := keep hbA k0_1
  replace u1_0 := keep hbA u1_0
  replace u1_1 := keep hbA u1_1
  replace u1_2 := keep hbA u1_2
  replace u1_3 := keep hbA u1_3
  replace u1_4 := keep hbA u1_4
  replace u1_5 := keep hbA u1_5
  replace u1_6 := keep hbA u1_6
  replace u1_7 := keep hbA u1_7
  replace hL := hL.below hbA
  replace HB := below_call HB (Nat.le_refl _) hbA
  clear hbA
  have u2_0 : (w2.alloc (.cells #[.int .i64 0, .int .i64 0, .int .i64 0, .int .i64 0, .bool false, .int .i64 0, .int .i64 0, .int .i64 0] 30)).cell? ⟨w2.heap.size, 0, none⟩ = some (.int .i64 0) := by simp
  have u2_1 : (w2.alloc (.cells #[.int .i64 0, .int .i64 0, .int .i64 0, .int .i64 0, .bool false, .int .i64 0, .int .i64 0, .int .i64 0] 30)).cell? ⟨w2.heap.size, 1, none⟩ = some (.int .i64 0) := by simp
  have u2_2 : (w2.alloc (.cells #[.int .i64 0, .int .i64 0, .int .i64 0, .int .i64 0, .bool false, .int .i64 0, .int .i64 0, .int .i64 0] 30)).cell? ⟨w2.heap.size, 2, none⟩ = some (.int .i64 0) := by simp
  have u2_3 : (w2.alloc (.cells #[.int .i64 0, .int .i64 0, .int .i64 0, .int .i64 0, .bool false, .int .i64 0, .int .i64 0, .int .i64 0] 30)).cell? ⟨w2.heap.size, 3, none⟩ = some (.int .i64 0) := by simp
  have u2_4 : (w2.alloc (.cells #[.int .i64 0, .int .i64 0, .int .i64 0, .int .i64 0, .bool false, .int .i64 0, .int .i64 0, .int .i64 0] 30)).cell? ⟨w2.heap.size, 4, none⟩ = some (.bool false) := by simp
  have u2_5 : (w2.alloc (.cells #[.int .i64 0, .int .i64 0, .int .i64 0, .int .i64 0, .bool false, .int .i64 0, .int .i64 0, .int .i64 0] 30)).cell? ⟨w2.heap.size, 5, none⟩ = some (.int .i64 0) := by simp
  have u2_6 : (w2.alloc (.cells #[.int .i64 0, .int .i64 0, .int .i64 0, .int .i64 0, .bool false, .int .i64 0, .int .i64 0, .int .i64 0] 30)).cell? ⟨w2.heap.size, 6, none⟩ = some (.int .i64 0) := by simp
  have u2_7 : (w2.alloc (.cells #[.int .i64 0, .int .i64 0, .int .i64 0, .int .i64 0, .bool false, .int .i64 0, .int .i64 0, .int .i64 0] 30)).cell? ⟨w2.heap.size, 7, none⟩ = some (.int .i64 0) := by simp
  go_wp2_with fail
  refine (same_refl 0 0 0 0 false 0 0 0 _).mono ?_
  rintro e w3 ⟨rfl, hb3⟩
  replace k0_0 := keep hb3 k0_0
  replace k0_1 := keep hb3 k0_1
  replace u1_0 := keep hb3 u1_0
  replace u1_1 := keep hb3 u1_1
  replace u1_2 := keep hb3 u1_2
  replace u1_3 := keep hb3 u1_3
  replace u1_4 := keep hb3 u1_4
  replace u1_5 := keep hb3 u1_5
  replace u1_6 := keep hb3 u1_6
  replace u1_7 := keep hb3 u1_7
  replace u2_0 := keep hb3 u2_0
  replace u2_1 := keep hb3 u2_1
  replace u2_2 := keep hb3 u2_2
  replace u2_3 := keep hb3 u2_3
  replace u2_4 := keep hb3 u2_4
  replace u2_5 := keep hb3 u2_5
  replace u2_6 := keep hb3 u2_6
  replace u2_7 := keep hb3 u2_7
  replace hL := hL.below hb3
  replace HB := below_call HB (Nat.le_refl _) hb3
  clear hb3
  go_wp2_with fail
  refine (num07_err 1 _ hL).mono ?_
  rintro e w4 ⟨rfl, hb4⟩
  replace k0_0 := keep hb4 k0_0
  replace k0_1 := keep hb4 k0_1
  replace u1_0 := keep hb4 u1_0
  replace u1_1 := keep hb4 u1_1
  replace u1_2 := keep hb4 u1_2
  replace u1_3 := keep hb4 u1_3
  replace u1_4 := keep hb4 u1_4
  replace u1_5 := keep hb4 u1_5
  replace u1_6 := keep hb4 u1_6
  replace u1_7 := keep hb4 u1_7
  replace u2_0 := keep hb4 u2_0
  replace u2_1 := keep hb4 u2_1
  replace u2_2 := keep hb4 u2_2
  replace u2_3 := keep hb4 u2_3
  replace u2_4 := keep hb4 u2_4
  replace u2_5 := keep hb4 u2_5
  replace u2_6 := keep hb4 u2_6
  replace u2_7 := keep hb4 u2_7
  replace hL := hL.below hb4
  replace HB := below_call HB (Nat.le_refl _) hb4
  clear hb4
  go_wp2_with fail
  refine (sure07 _).mono ?_
  rintro e w5 ⟨rfl, hb5⟩
  replace k0_0 := keep hb5 k0_0
  replace k0_1 := keep hb5 k0_1
  replace u1_0 := keep hb5 u1_0
  replace u1_1 := keep hb5 u1_1
  replace u1_2 := keep hb5 u1_2
  replace u1_3 := keep hb5 u1_3
  replace u1_4 := keep hb5 u1_4
  replace u1_5 := keep hb5 u1_5
  replace u1_6 := keep hb5 u1_6
  replace u1_7 := keep hb5 u1_7
  replace u2_0 := keep hb5 u2_0
  replace u2_1 := keep hb5 u2_1
  replace u2_2 := keep hb5 u2_2
  replace u2_3 := keep hb5 u2_3
  replace u2_4 := keep hb5 u2_4
  replace u2_5 := keep hb5 u2_5
  replace u2_6 := keep hb5 u2_6
  replace u2_7 := keep hb5 u2_7
  replace hL := hL.below hb5
  replace HB := below_call HB (Nat.le_refl _) hb5
  clear hb5
  go_wp2
  go_ret
  exact ⟨rfl, HB⟩

set_option maxHeartbeats 2000000 in
set_option maxRecDepth 100000 in
theorem news_bad (q p at_ : Int) (w : World) (hL : Laid w) (h0 : 0 ≤ at_) (h : ¬ Vld q p) :
    Calls Tryd.prog 3 #[.agg #[.int .i64 q, .int .i64 p], .int .i64 at_] w fun e w' => e = .returned (.bool true) ∧ Below w.heap.size w w' := by
  have HB : Below w.heap.size w (w.alloc (.cells #[.int .i64 q, .int .i64 p] 23)) := ((Below.refl _ w).alloc (by simp) _)
  have k0_0 : (w.alloc (.cells #[.int .i64 q, .int .i64 p] 23)).cell? ⟨w.heap.size, 0, none⟩ = some (.int .i64 q) := by simp
  have k0_1 : (w.alloc (.cells #[.int .i64 q, .int .i64 p] 23)).cell? ⟨w.heap.size, 1, none⟩ = some (.int .i64 p) := by simp
  replace hL : Laid (w.alloc (.cells #[.int .i64 q, .int .i64 p] 23)) := hL.alloc _
  go_enter Tryd.func3, Tryd.ntmps3
  go_wp2_with fail
  refine (bnew_bad q p at_ _ h0 h).mono ?_
  rintro e w1 ⟨rfl, hb1⟩
  replace k0_0 := keep hb1 k0_0
  replace k0_1 := keep hb1 k0_1
  replace hL := hL.below hb1
  replace HB := below_call HB (Nat.le_refl _) hb1
  clear hb1
  have hbA : Below w1.heap.size w1 (w1.alloc (.cells #[.int .i64 0, .int .i64 0, .int .i64 0, .int .i64 0, .bool false, .int .i64 0, .int .i64 0, .int .i64 0] 25)) := (Below.refl _ _).alloc (Nat.le_refl _) _
  replace k0_0 := keep hbA k0_0
  replace k0_1 := keep hbA k0_1
  replace hL := hL.below hbA
  replace HB := below_call HB (Nat.le_refl _) hbA
  clear hbA
  have u1_0 : (w1.alloc (.cells #[.int .i64 0, .int .i64 0, .int .i64 0, .int .i64 0, .bool false, .int .i64 0, .int .i64 0, .int .i64 0] 25)).cell? ⟨w1.heap.size, 0, none⟩ = some (.int .i64 0) := by simp
  have u1_1 : (w1.alloc (.cells #[.int .i64 0, .int .i64 0, .int .i64 0, .int .i64 0, .bool false, .int .i64 0, .int .i64 0, .int .i64 0] 25)).cell? ⟨w1.heap.size, 1, none⟩ = some (.int .i64 0) := by simp
  have u1_2 : (w1.alloc (.cells #[.int .i64 0, .int .i64 0, .int .i64 0, .int .i64 0, .bool false, .int .i64 0, .int .i64 0, .int .i64 0] 25)).cell? ⟨w1.heap.size, 2, none⟩ = some (.int .i64 0) := by simp
  have u1_3 : (w1.alloc (.cells #[.int .i64 0, .int .i64 0, .int .i64 0, .int .i64 0, .bool false, .int .i64 0, .int .i64 0, .int .i64 0] 25)).cell? ⟨w1.heap.size, 3, none⟩ = some (.int .i64 0) := by simp
  have u1_4 : (w1.alloc (.cells #[.int .i64 0, .int .i64 0, .int .i64 0, .int .i64 0, .bool false, .int .i64 0, .int .i64 0, .int .i64 0] 25)).cell? ⟨w1.heap.size, 4, none⟩ = some (.bool false) := by simp
  have u1_5 : (w1.alloc (.cells #[.int .i64 0, .int .i64 0, .int .i64 0, .int .i64 0, .bool false, .int .i64 0, .int .i64 0, .int .i64 0] 25)).cell? ⟨w1.heap.size, 5, none⟩ = some (.int .i64 0) := by simp
  have u1_6 : (w1.alloc (.cells #[.int .i64 0, .int .i64 0, .int .i64 0, .int .i64 0, .bool false, .int .i64 0, .int .i64 0, .int .i64 0] 25)).cell? ⟨w1.heap.size, 6, none⟩ = some (.int .i64 0) := by simp
  have u1_7 : (w1.alloc (.cells #[.int .i64 0, .int .i64 0, .int .i64 0, .int .i64 0, .bool false, .int .i64 0, .int .i64 0, .int .i64 0] 25)).cell? ⟨w1.heap.size, 7, none⟩ = some (.int .i64 0) := by simp
  go_wp2_with fail
  refine (rbnew_bad q p at_ _ h0 h).mono ?_
  rintro e w2 ⟨rfl, hb2⟩
  replace k0_0 := keep hb2 k0_0
  replace k0_1 := keep hb2 k0_1
  replace u1_0 := keep hb2 u1_0
  replace u1_1 := keep hb2 u1_1
  replace u1_2 := keep hb2 u1_2
  replace u1_3 := keep hb2 u1_3
  replace u1_4 := keep hb2 u1_4
  replace u1_5 := keep hb2 u1_5
  replace u1_6 := keep hb2 u1_6
  replace u1_7 := keep hb2 u1_7
  replace hL := hL.below hb2
  replace HB := below_call HB (Nat.le_refl _) hb2
  clear hb2
  have hbA : Below w2.heap.size w2 (w2.alloc (.cells #[.int .i64 0, .int .i64 0, .int .i64 0, .int .i64 0, .bool false, .int .i64 0, .int .i64 0, .int .i64 0] 30)) := (Below.refl _ _).alloc (Nat.le_refl _) _
  replace k0_0 := keep hbA k0_0
  replace k0_1 := keep hbA k0_1
  replace u1_0 := keep hbA u1_0
  replace u1_1 := keep hbA u1_1
  replace u1_2 := keep hbA u1_2
  replace u1_3 := keep hbA u1_3
  replace u1_4 := keep hbA u1_4
  replace u1_5 := keep hbA u1_5
  replace u1_6 := keep hbA u1_6
  replace u1_7 := keep hbA u1_7
  replace hL := hL.below hbA
  replace HB := below_call HB (Nat.le_refl _) hbA
  clear hbA
  have u2_0 : (w2.alloc (.cells #[.int .i64 0, .int .i64 0, .int .i64 0, .int .i64 0, .bool false, .int .i64 0, .int .i64 0, .int .i64 0] 30)).cell? ⟨w2.heap.size, 0, none⟩ = some (.int .i64 0) := by simp
  have u2_1 : (w2.alloc (.cells #[.int .i64 0, .int .i64 0, .int .i64 0, .int .i64 0, .bool false, .int .i64 0, .int .i64 0, .int .i64 0] 30)).cell? ⟨w2.heap.size, 1, none⟩ = some (.int .i64 0) := by simp
  have u2_2 : (w2.alloc (.cells #[.int .i64 0, .int .i64 0, .int .i64 0, .int .i64 0, .bool false, .int .i64 0, .int .i64 0, .int .i64 0] 30)).cell? ⟨w2.heap.size, 2, none⟩ = some (.int .i64 0) := by simp
  have u2_3 : (w2.alloc (.cells #[.int .i64 0, .int .i64 0, .int .i64 0, .int .i64 0, .bool false, .int .i64 0, .int .i64 0, .int .i64 0] 30)).cell? ⟨w2.heap.size, 3, none⟩ = some (.int .i64 0) := by simp
  have u2_4 : (w2.alloc (.cells #[.int .i64 0, .int .i64 0, .int .i64 0, .int .i64 0, .bool false, .int .i64 0, .int .i64 0, .int .i64 0] 30)).cell? ⟨w2.heap.size, 4, none⟩ = some (.bool false) := by simp
  have u2_5 : (w2.alloc (.cells #[.int .i64 0, .int .i64 0, .int .i64 0, .int .i64 0, .bool false, .int .i64 0, .int .i64 0, .int .i64 0] 30)).cell? ⟨w2.heap.size, 5, none⟩ = some (.int .i64 0) := by simp
  have u2_6 : (w2.alloc (.cells #[.int .i64 0, .int .i64 0, .int .i64 0, .int .i64 0, .bool false, .int .i64 0, .int .i64 0, .int .i64 0] 30)).cell? ⟨w2.heap.size, 6, none⟩ = some (.int .i64 0) := by simp
  have u2_7 : (w2.alloc (.cells #[.int .i64 0, .int .i64 0, .int .i64 0, .int .i64 0, .bool false, .int .i64 0, .int .i64 0, .int .i64 0] 30)).cell? ⟨w2.heap.size, 7, none⟩ = some (.int .i64 0) := by simp
  go_wp2_with fail
  refine (same_refl 0 0 0 0 false 0 0 0 _).mono ?_
  rintro e w3 ⟨rfl, hb3⟩
  replace k0_0 := keep hb3 k0_0
  replace k0_1 := keep hb3 k0_1
  replace u1_0 := keep hb3 u1_0
  replace u1_1 := keep hb3 u1_1
  replace u1_2 := keep hb3 u1_2
  replace u1_3 := keep hb3 u1_3
  replace u1_4 := keep hb3 u1_4
  replace u1_5 := keep hb3 u1_5
  replace u1_6 := keep hb3 u1_6
  replace u1_7 := keep hb3 u1_7
  replace u2_0 := keep hb3 u2_0
  replace u2_1 := keep hb3 u2_1
  replace u2_2 := keep hb3 u2_2
  replace u2_3 := keep hb3 u2_3
  replace u2_4 := keep hb3 u2_4
  replace u2_5 := keep hb3 u2_5
  replace u2_6 := keep hb3 u2_6
  replace u2_7 := keep hb3 u2_7
  replace hL := hL.below hb3
  replace HB := below_call HB (Nat.le_refl _) hb3
  clear hb3
  go_wp2_with fail
  refine (num07_err 2 _ hL).mono ?_
  rintro e w4 ⟨rfl, hb4⟩
  replace k0_0 := keep hb4 k0_0
  replace k0_1 := keep hb4 k0_1
  replace u1_0 := keep hb4 u1_0
  replace u1_1 := keep hb4 u1_1
  replace u1_2 := keep hb4 u1_2
  replace u1_3 := keep hb4 u1_3
  replace u1_4 := keep hb4 u1_4
  replace u1_5 := keep hb4 u1_5
  replace u1_6 := keep hb4 u1_6
  replace u1_7 := keep hb4 u1_7
  replace u2_0 := keep hb4 u2_0
  replace u2_1 := keep hb4 u2_1
  replace u2_2 := keep hb4 u2_2
  replace u2_3 := keep hb4 u2_3
  replace u2_4 := keep hb4 u2_4
  replace u2_5 := keep hb4 u2_5
  replace u2_6 := keep hb4 u2_6
  replace u2_7 := keep hb4 u2_7
  replace hL := hL.below hb4
  replace HB := below_call HB (Nat.le_refl _) hb4
  clear hb4
  go_wp2_with fail
  refine (sure07 _).mono ?_
  rintro e w5 ⟨rfl, hb5⟩
  replace k0_0 := keep hb5 k0_0
  replace k0_1 := keep hb5 k0_1
  replace u1_0 := keep hb5 u1_0
  replace u1_1 := keep hb5 u1_1
  replace u1_2 := keep hb5 u1_2
  replace u1_3 := keep hb5 u1_3
  replace u1_4 := keep hb5 u1_4
  replace u1_5 := keep hb5 u1_5
  replace u1_6 := keep hb5 u1_6
  replace u1_7 := keep hb5 u1_7
  replace u2_0 := keep hb5 u2_0
  replace u2_1 := keep hb5 u2_1
  replace u2_2 := keep hb5 u2_2
  replace u2_3 := keep hb5 u2_3
  replace u2_4 := keep hb5 u2_4
  replace u2_5 := keep hb5 u2_5
  replace u2_6 := keep hb5 u2_6
  replace u2_7 := keep hb5 u2_7
  replace hL := hL.below hb5
  replace HB := below_call HB (Nat.le_refl _) hb5
  clear hb5
  go_wp2
  go_ret
  exact ⟨rfl, HB⟩

set_option maxHeartbeats 2000000 in
set_option maxRecDepth 100000 in
theorem news_time (q p at_ : Int) (w : World) (hL : Laid w) (h0 : 0 ≤ at_) (h1 : 1073741824 < at_) (h : Vld q p) :
    Calls Tryd.prog 3 #[.agg #[.int .i64 q, .int .i64 p], .int .i64 at_] w fun e w' => e = .returned (.bool true) ∧ Below w.heap.size w w' := by
  have HB : Below w.heap.size w (w.alloc (.cells #[.int .i64 q, .int .i64 p] 23)) := ((Below.refl _ w).alloc (by simp) _)
  have k0_0 : (w.alloc (.cells #[.int .i64 q, .int .i64 p] 23)).cell? ⟨w.heap.size, 0, none⟩ = some (.int .i64 q) := by simp
  have k0_1 : (w.alloc (.cells #[.int .i64 q, .int .i64 p] 23)).cell? ⟨w.heap.size, 1, none⟩ = some (.int .i64 p) := by simp
  replace hL : Laid (w.alloc (.cells #[.int .i64 q, .int .i64 p] 23)) := hL.alloc _
  go_enter Tryd.func3, Tryd.ntmps3
  go_wp2_with fail
  refine (bnew_time q p at_ _ h0 h1 h).mono ?_
  rintro e w1 ⟨rfl, hb1⟩
  replace k0_0 := keep hb1 k0_0
  replace k0_1 := keep hb1 k0_1
  replace hL := hL.below hb1
  replace HB := below_call HB (Nat.le_refl _) hb1
  clear hb1
  have hbA : Below w1.heap.size w1 (w1.alloc (.cells #[.int .i64 0, .int .i64 0, .int .i64 0, .int .i64 0, .bool false, .int .i64 0, .int .i64 0, .int .i64 0] 25)) := (Below.refl _ _).alloc (Nat.le_refl _) _
  replace k0_0 := keep hbA k0_0
  replace k0_1 := keep hbA k0_1
  replace hL := hL.below hbA
  replace HB := below_call HB (Nat.le_refl _) hbA
  clear hbA
  have u1_0 : (w1.alloc (.cells #[.int .i64 0, .int .i64 0, .int .i64 0, .int .i64 0, .bool false, .int .i64 0, .int .i64 0, .int .i64 0] 25)).cell? ⟨w1.heap.size, 0, none⟩ = some (.int .i64 0) := by simp
  have u1_1 : (w1.alloc (.cells #[.int .i64 0, .int .i64 0, .int .i64 0, .int .i64 0, .bool false, .int .i64 0, .int .i64 0, .int .i64 0] 25)).cell? ⟨w1.heap.size, 1, none⟩ = some (.int .i64 0) := by simp
  have u1_2 : (w1.alloc (.cells #[.int .i64 0, .int .i64 0, .int .i64 0, .int .i64 0, .bool false, .int .i64 0, .int .i64 0, .int .i64 0] 25)).cell? ⟨w1.heap.size, 2, none⟩ = some (.int .i64 0) := by simp
  have u1_3 : (w1.alloc (.cells #[.int .i64 0, .int .i64 0, .int .i64 0, .int .i64 0, .bool false, .int .i64 0, .int .i64 0, .int .i64 0] 25)).cell? ⟨w1.heap.size, 3, none⟩ = some (.int .i64 0) := by simp
  have u1_4 : (w1.alloc (.cells #[.int .i64 0, .int .i64 0, .int .i64 0, .int .i64 0, .bool false, .int .i64 0, .int .i64 0, .int .i64 0] 25)).cell? ⟨w1.heap.size, 4, none⟩ = some (.bool false) := by simp
  have u1_5 : (w1.alloc (.cells #[.int .i64 0, .int .i64 0, .int .i64 0, .int .i64 0, .bool false, .int .i64 0, .int .i64 0, .int .i64 0] 25)).cell? ⟨w1.heap.size, 5, none⟩ = some (.int .i64 0) := by simp
  have u1_6 : (w1.alloc (.cells #[.int .i64 0, .int .i64 0, .int .i64 0, .int .i64 0, .bool false, .int .i64 0, .int .i64 0, .int .i64 0] 25)).cell? ⟨w1.heap.size, 6, none⟩ = some (.int .i64 0) := by simp
  have u1_7 : (w1.alloc (.cells #[.int .i64 0, .int .i64 0, .int .i64 0, .int .i64 0, .bool false, .int .i64 0, .int .i64 0, .int .i64 0] 25)).cell? ⟨w1.heap.size, 7, none⟩ = some (.int .i64 0) := by simp
  go_wp2_with fail
  refine (rbnew_time q p at_ _ h0 h1 h).mono ?_
  rintro e w2 ⟨rfl, hb2⟩
  replace k0_0 := keep hb2 k0_0
  replace k0_1 := keep hb2 k0_1
  replace u1_0 := keep hb2 u1_0
  replace u1_1 := keep hb2 u1_1
  replace u1_2 := keep hb2 u1_2
  replace u1_3 := keep hb2 u1_3
  replace u1_4 := keep hb2 u1_4
  replace u1_5 := keep hb2 u1_5
  replace u1_6 := keep hb2 u1_6
  replace u1_7 := keep hb2 u1_7
  replace hL := hL.below hb2
  replace HB := below_call HB (Nat.le_refl _) hb2
  clear hb2
  have hbA : Below w2.heap.size w2 (w2.alloc (.cells #[.int .i64 0, .int .i64 0, .int .i64 0, .int .i64 0, .bool false, .int .i64 0, .int .i64 0, .int .i64 0] 30)) := (Below.refl _ _).alloc (Nat.le_refl _) _
  replace k0_0 := keep hbA k0_0
  replace k0_1 := keep hbA k0_1
  replace u1_0 := keep hbA u1_0
  replace u1_1 := keep hbA u1_1
  replace u1_2 := keep hbA u1_2
  replace u1_3 := keep hbA u1_3
  replace u1_4 := keep hbA u1_4
  replace u1_5 := keep hbA u1_5
  replace u1_6 := keep hbA u1_6
  replace u1_7 := keep hbA u1_7
  replace hL := hL.below hbA
  replace HB := below_call HB (Nat.le_refl _) hbA
  clear hbA
  have u2_0 : (w2.alloc (.cells #[.int .i64 0, .int .i64 0, .int .i64 0, .int .i64 0, .bool false, .int .i64 0, .int .i64 0, .int .i64 0] 30)).cell? ⟨w2.heap.size, 0, none⟩ = some (.int .i64 0) := by simp
  have u2_1 : (w2.alloc (.cells #[.int .i64 0, .int .i64 0, .int .i64 0, .int .i64 0, .bool false, .int .i64 0, .int .i64 0, .int .i64 0] 30)).cell? ⟨w2.heap.size, 1, none⟩ = some (.int .i64 0) := by simp
  have u2_2 : (w2.alloc (.cells #[.int .i64 0, .int .i64 0, .int .i64 0, .int .i64 0, .bool false, .int .i64 0, .int .i64 0, .int .i64 0] 30)).cell? ⟨w2.heap.size, 2, none⟩ = some (.int .i64 0) := by simp
  have u2_3 : (w2.alloc (.cells #[.int .i64 0, .int .i64 0, .int .i64 0, .int .i64 0, .bool false, .int .i64 0, .int .i64 0, .int .i64 0] 30)).cell? ⟨w2.heap.size, 3, none⟩ = some (.int .i64 0) := by simp
  have u2_4 : (w2.alloc (.cells #[.int .i64 0, .int .i64 0, .int .i64 0, .int .i64 0, .bool false, .int .i64 0, .int .i64 0, .int .i64 0] 30)).cell? ⟨w2.heap.size, 4, none⟩ = some (.bool false) := by simp
  have u2_5 : (w2.alloc (.cells #[.int .i64 0, .int .i64 0, .int .i64 0, .int .i64 0, .bool false, .int .i64 0, .int .i64 0, .int .i64 0] 30)).cell? ⟨w2.heap.size, 5, none⟩ = some (.int .i64 0) := by simp
  have u2_6 : (w2.alloc (.cells #[.int .i64 0, .int .i64 0, .int .i64 0, .int .i64 0, .bool false, .int .i64 0, .int .i64 0, .int .i64 0] 30)).cell? ⟨w2.heap.size, 6, none⟩ = some (.int .i64 0) := by simp
  have u2_7 : (w2.alloc (.cells #[.int .i64 0, .int .i64 0, .int .i64 0, .int .i64 0, .bool false, .int .i64 0, .int .i64 0, .int .i64 0] 30)).cell? ⟨w2.heap.size, 7, none⟩ = some (.int .i64 0) := by simp
  go_wp2_with fail
  refine (same_refl 0 0 0 0 false 0 0 0 _).mono ?_
  rintro e w3 ⟨rfl, hb3⟩
  replace k0_0 := keep hb3 k0_0
  replace k0_1 := keep hb3 k0_1
  replace u1_0 := keep hb3 u1_0
  replace u1_1 := keep hb3 u1_1
  replace u1_2 := keep hb3 u1_2
  replace u1_3 := keep hb3 u1_3
  replace u1_4 := keep hb3 u1_4
  replace u1_5 := keep hb3 u1_5
  replace u1_6 := keep hb3 u1_6
  replace u1_7 := keep hb3 u1_7
  replace u2_0 := keep hb3 u2_0
  replace u2_1 := keep hb3 u2_1
  replace u2_2 := keep hb3 u2_2
  replace u2_3 := keep hb3 u2_3
  replace u2_4 := keep hb3 u2_4
  replace u2_5 := keep hb3 u2_5
  replace u2_6 := keep hb3 u2_6
  replace u2_7 := keep hb3 u2_7
  replace hL := hL.below hb3
  replace HB := below_call HB (Nat.le_refl _) hb3
  clear hb3
  go_wp2_with fail
  refine (num07_err 60 _ hL).mono ?_
  rintro e w4 ⟨rfl, hb4⟩
  replace k0_0 := keep hb4 k0_0
  replace k0_1 := keep hb4 k0_1
  replace u1_0 := keep hb4 u1_0
  replace u1_1 := keep hb4 u1_1
  replace u1_2 := keep hb4 u1_2
  replace u1_3 := keep hb4 u1_3
  replace u1_4 := keep hb4 u1_4
  replace u1_5 := keep hb4 u1_5
  replace u1_6 := keep hb4 u1_6
  replace u1_7 := keep hb4 u1_7
  replace u2_0 := keep hb4 u2_0
  replace u2_1 := keep hb4 u2_1
  replace u2_2 := keep hb4 u2_2
  replace u2_3 := keep hb4 u2_3
  replace u2_4 := keep hb4 u2_4
  replace u2_5 := keep hb4 u2_5
  replace u2_6 := keep hb4 u2_6
  replace u2_7 := keep hb4 u2_7
  replace hL := hL.below hb4
  replace HB := below_call HB (Nat.le_refl _) hb4
  clear hb4
  go_wp2_with fail
  refine (sure07 _).mono ?_
  rintro e w5 ⟨rfl, hb5⟩
  replace k0_0 := keep hb5 k0_0
  replace k0_1 := keep hb5 k0_1
  replace u1_0 := keep hb5 u1_0
  replace u1_1 := keep hb5 u1_1
  replace u1_2 := keep hb5 u1_2
  replace u1_3 := keep hb5 u1_3
  replace u1_4 := keep hb5 u1_4
  replace u1_5 := keep hb5 u1_5
  replace u1_6 := keep hb5 u1_6
  replace u1_7 := keep hb5 u1_7
  replace u2_0 := keep hb5 u2_0
  replace u2_1 := keep hb5 u2_1
  replace u2_2 := keep hb5 u2_2
  replace u2_3 := keep hb5 u2_3
  replace u2_4 := keep hb5 u2_4
  replace u2_5 := keep hb5 u2_5
  replace u2_6 := keep hb5 u2_6
  replace u2_7 := keep hb5 u2_7
  replace hL := hL.below hb5
  replace HB := below_call HB (Nat.le_refl _) hb5
  clear hb5
  go_wp2
  go_ret
  exact ⟨rfl, HB⟩

theorem news_any (q p at_ : Int) (w : World) (hL : Laid w) :
    Calls Tryd.prog 3 #[.agg #[.int .i64 q, .int .i64 p], .int .i64 at_] w fun e w' => e = .returned (.bool true) ∧ Below w.heap.size w w' := by
  by_cases h0 : at_ < 0
  · exact news_neg q p at_ w hL h0
  · by_cases h : Vld q p
    · by_cases h1 : 1073741824 < at_
      · exact news_time q p at_ w hL (by omega) h1 h
      · exact news_ok q p at_ w hL (by omega) (by omega) h
    · exact news_bad q p at_ w hL (by omega) h

end Go.Proofs.YtggcahcdhjnemaaDoor
