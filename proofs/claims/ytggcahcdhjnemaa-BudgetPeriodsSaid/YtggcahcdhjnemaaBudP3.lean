/- BudgetPeriods: the call returns true, whatever comes. -/
import Derived.Test.YtggcahcdhjnemaaBudP1
import Derived.Test.YtggcahcdhjnemaaBud5
set_option linter.unusedVariables false
set_option linter.unusedSimpArgs false
namespace Go.Proofs.Ytggcahcdhjnemaa
open Go.RowKit
set_option maxRecDepth 100000

theorem bnew_err (q p at_ : Int) (h : at_ < 0 ∨ 1073741824 < at_ ∨ ¬ Vld q p) :
    ∃ n, ∀ w, Calls Try.prog 10 #[.agg #[.int .i64 q, .int .i64 p], .int .i64 at_] w fun e w' => e = .returned (.tuple #[budZ, .iface 47 (.int .i64 n)]) ∧ Below w.heap.size w w' := by
  by_cases h0 : at_ < 0
  · exact ⟨1, fun w => bnew_neg q p at_ w h0⟩
  · by_cases hv : Vld q p
    · exact ⟨60, fun w => bnew_time q p at_ w (by omega) (by rcases h with h | h | h; omega; exact h; exact absurd hv h) hv⟩
    · exact ⟨2, fun w => bnew_bad q p at_ w (by omega) hv⟩

set_option maxHeartbeats 4000000 in
theorem per_err_bad (q p at_ : Int) (a : Option Addr) (len cap : Nat) (w : World) (hv : ¬ Vld q p) :
    Calls Try.prog 4 #[.agg #[.int .i64 q, .int .i64 p], .int .i64 at_, .slice a len cap] w fun e w' => e = .returned (.bool true) ∧ Below w.heap.size w w' := by
  obtain ⟨n, HN⟩ := bnew_err q p at_ (Or.inr (Or.inr hv))
  have HHN := Lib.hid HN
  clear HN
  have HB : Below w.heap.size w (w.alloc (.cells #[.int .i64 q, .int .i64 p] 23)) := ((Below.refl _ w).alloc (by simp) _)
  have k0_0 : (w.alloc (.cells #[.int .i64 q, .int .i64 p] 23)).cell? ⟨w.heap.size, 0, none⟩ = some (.int .i64 q) := by simp
  have k0_1 : (w.alloc (.cells #[.int .i64 q, .int .i64 p] 23)).cell? ⟨w.heap.size, 1, none⟩ = some (.int .i64 p) := by simp
  go_enter Try.func4, Try.ntmps4
  go_wp2_with fail
  refine (HHN.out _).mono ?_
  rintro e w1 ⟨rfl, hb1⟩
  replace k0_0 := keep hb1 k0_0
  replace k0_1 := keep hb1 k0_1
  replace HB := below_call HB (Nat.le_refl _) hb1
  clear hb1
  have hbA : Below w1.heap.size w1 (w1.alloc (.cells #[.int .i64 0, .int .i64 0, .int .i64 0, .int .i64 0, .bool false, .int .i64 0, .int .i64 0, .int .i64 0] 35)) := (Below.refl _ _).alloc (Nat.le_refl _) _
  replace k0_0 := keep hbA k0_0
  replace k0_1 := keep hbA k0_1
  replace HB := below_call HB (Nat.le_refl _) hbA
  clear hbA
  have u1_0 : (w1.alloc (.cells #[.int .i64 0, .int .i64 0, .int .i64 0, .int .i64 0, .bool false, .int .i64 0, .int .i64 0, .int .i64 0] 35)).cell? ⟨w1.heap.size, 0, none⟩ = some (.int .i64 0) := by simp
  have u1_1 : (w1.alloc (.cells #[.int .i64 0, .int .i64 0, .int .i64 0, .int .i64 0, .bool false, .int .i64 0, .int .i64 0, .int .i64 0] 35)).cell? ⟨w1.heap.size, 1, none⟩ = some (.int .i64 0) := by simp
  have u1_2 : (w1.alloc (.cells #[.int .i64 0, .int .i64 0, .int .i64 0, .int .i64 0, .bool false, .int .i64 0, .int .i64 0, .int .i64 0] 35)).cell? ⟨w1.heap.size, 2, none⟩ = some (.int .i64 0) := by simp
  have u1_3 : (w1.alloc (.cells #[.int .i64 0, .int .i64 0, .int .i64 0, .int .i64 0, .bool false, .int .i64 0, .int .i64 0, .int .i64 0] 35)).cell? ⟨w1.heap.size, 3, none⟩ = some (.int .i64 0) := by simp
  have u1_4 : (w1.alloc (.cells #[.int .i64 0, .int .i64 0, .int .i64 0, .int .i64 0, .bool false, .int .i64 0, .int .i64 0, .int .i64 0] 35)).cell? ⟨w1.heap.size, 4, none⟩ = some (.bool false) := by simp
  have u1_5 : (w1.alloc (.cells #[.int .i64 0, .int .i64 0, .int .i64 0, .int .i64 0, .bool false, .int .i64 0, .int .i64 0, .int .i64 0] 35)).cell? ⟨w1.heap.size, 5, none⟩ = some (.int .i64 0) := by simp
  have u1_6 : (w1.alloc (.cells #[.int .i64 0, .int .i64 0, .int .i64 0, .int .i64 0, .bool false, .int .i64 0, .int .i64 0, .int .i64 0] 35)).cell? ⟨w1.heap.size, 6, none⟩ = some (.int .i64 0) := by simp
  have u1_7 : (w1.alloc (.cells #[.int .i64 0, .int .i64 0, .int .i64 0, .int .i64 0, .bool false, .int .i64 0, .int .i64 0, .int .i64 0] 35)).cell? ⟨w1.heap.size, 7, none⟩ = some (.int .i64 0) := by simp
  go_wp2_with fail
  refine (rvalid_bad q p _ hv).mono ?_
  rintro e w2 ⟨rfl, hb2⟩
  replace k0_0 := keep hb2 k0_0
  replace k0_1 := keep hb2 k0_1
  replace u1_0 := keep hb2 u1_0
  replace u1_1 := keep hb2 u1_1
  replace u1_2 := keep hb2 u1_2
  replace u1_3 := keep hb2 u1_3
  replace u1_4 := keep hb2 u1_4
  replace u1_5 := keep hb2 u1_5
  replace u1_6 := keep hb2 u1_6
  replace u1_7 := keep hb2 u1_7
  replace HB := below_call HB (Nat.le_refl _) hb2
  clear hb2
  go_wp2_with fail
  refine (sure07 _).mono ?_
  rintro e w3 ⟨rfl, hb3⟩
  replace k0_0 := keep hb3 k0_0
  replace k0_1 := keep hb3 k0_1
  replace u1_0 := keep hb3 u1_0
  replace u1_1 := keep hb3 u1_1
  replace u1_2 := keep hb3 u1_2
  replace u1_3 := keep hb3 u1_3
  replace u1_4 := keep hb3 u1_4
  replace u1_5 := keep hb3 u1_5
  replace u1_6 := keep hb3 u1_6
  replace u1_7 := keep hb3 u1_7
  replace HB := below_call HB (Nat.le_refl _) hb3
  clear hb3
  go_wp2
  go_ret
  exact ⟨rfl, HB⟩

set_option maxHeartbeats 4000000 in
theorem per_err_at (q p at_ : Int) (a : Option Addr) (len cap : Nat) (w : World) (hv : Vld q p) (h : at_ < 0 ∨ (¬ at_ < 0 ∧ 1073741824 < at_)) :
    Calls Try.prog 4 #[.agg #[.int .i64 q, .int .i64 p], .int .i64 at_, .slice a len cap] w fun e w' => e = .returned (.bool true) ∧ Below w.heap.size w w' := by
  obtain ⟨n, HN⟩ := bnew_err q p at_ (by rcases h with h | h; exact Or.inl h; exact Or.inr (Or.inl h.2))
  have HHN := Lib.hid HN
  clear HN
  rcases h with h | ⟨h, h2⟩
  · have t1 : decide (at_ < 0) = true := by simpa using h
    have HB : Below w.heap.size w (w.alloc (.cells #[.int .i64 q, .int .i64 p] 23)) := ((Below.refl _ w).alloc (by simp) _)
    have k0_0 : (w.alloc (.cells #[.int .i64 q, .int .i64 p] 23)).cell? ⟨w.heap.size, 0, none⟩ = some (.int .i64 q) := by simp
    have k0_1 : (w.alloc (.cells #[.int .i64 q, .int .i64 p] 23)).cell? ⟨w.heap.size, 1, none⟩ = some (.int .i64 p) := by simp
    go_enter Try.func4, Try.ntmps4
    go_wp2_with fail
    refine (HHN.out _).mono ?_
    rintro e w1 ⟨rfl, hb1⟩
    replace k0_0 := keep hb1 k0_0
    replace k0_1 := keep hb1 k0_1
    replace HB := below_call HB (Nat.le_refl _) hb1
    clear hb1
    have hbA : Below w1.heap.size w1 (w1.alloc (.cells #[.int .i64 0, .int .i64 0, .int .i64 0, .int .i64 0, .bool false, .int .i64 0, .int .i64 0, .int .i64 0] 35)) := (Below.refl _ _).alloc (Nat.le_refl _) _
    replace k0_0 := keep hbA k0_0
    replace k0_1 := keep hbA k0_1
    replace HB := below_call HB (Nat.le_refl _) hbA
    clear hbA
    have u1_0 : (w1.alloc (.cells #[.int .i64 0, .int .i64 0, .int .i64 0, .int .i64 0, .bool false, .int .i64 0, .int .i64 0, .int .i64 0] 35)).cell? ⟨w1.heap.size, 0, none⟩ = some (.int .i64 0) := by simp
    have u1_1 : (w1.alloc (.cells #[.int .i64 0, .int .i64 0, .int .i64 0, .int .i64 0, .bool false, .int .i64 0, .int .i64 0, .int .i64 0] 35)).cell? ⟨w1.heap.size, 1, none⟩ = some (.int .i64 0) := by simp
    have u1_2 : (w1.alloc (.cells #[.int .i64 0, .int .i64 0, .int .i64 0, .int .i64 0, .bool false, .int .i64 0, .int .i64 0, .int .i64 0] 35)).cell? ⟨w1.heap.size, 2, none⟩ = some (.int .i64 0) := by simp
    have u1_3 : (w1.alloc (.cells #[.int .i64 0, .int .i64 0, .int .i64 0, .int .i64 0, .bool false, .int .i64 0, .int .i64 0, .int .i64 0] 35)).cell? ⟨w1.heap.size, 3, none⟩ = some (.int .i64 0) := by simp
    have u1_4 : (w1.alloc (.cells #[.int .i64 0, .int .i64 0, .int .i64 0, .int .i64 0, .bool false, .int .i64 0, .int .i64 0, .int .i64 0] 35)).cell? ⟨w1.heap.size, 4, none⟩ = some (.bool false) := by simp
    have u1_5 : (w1.alloc (.cells #[.int .i64 0, .int .i64 0, .int .i64 0, .int .i64 0, .bool false, .int .i64 0, .int .i64 0, .int .i64 0] 35)).cell? ⟨w1.heap.size, 5, none⟩ = some (.int .i64 0) := by simp
    have u1_6 : (w1.alloc (.cells #[.int .i64 0, .int .i64 0, .int .i64 0, .int .i64 0, .bool false, .int .i64 0, .int .i64 0, .int .i64 0] 35)).cell? ⟨w1.heap.size, 6, none⟩ = some (.int .i64 0) := by simp
    have u1_7 : (w1.alloc (.cells #[.int .i64 0, .int .i64 0, .int .i64 0, .int .i64 0, .bool false, .int .i64 0, .int .i64 0, .int .i64 0] 35)).cell? ⟨w1.heap.size, 7, none⟩ = some (.int .i64 0) := by simp
    go_wp2_with fail
    refine (rvalid_ok q p _ hv).mono ?_
    rintro e w2 ⟨rfl, hb2⟩
    replace k0_0 := keep hb2 k0_0
    replace k0_1 := keep hb2 k0_1
    replace u1_0 := keep hb2 u1_0
    replace u1_1 := keep hb2 u1_1
    replace u1_2 := keep hb2 u1_2
    replace u1_3 := keep hb2 u1_3
    replace u1_4 := keep hb2 u1_4
    replace u1_5 := keep hb2 u1_5
    replace u1_6 := keep hb2 u1_6
    replace u1_7 := keep hb2 u1_7
    replace HB := below_call HB (Nat.le_refl _) hb2
    clear hb2
    go_wp2_with fail
    refine (sure07 _).mono ?_
    rintro e w3 ⟨rfl, hb3⟩
    replace k0_0 := keep hb3 k0_0
    replace k0_1 := keep hb3 k0_1
    replace u1_0 := keep hb3 u1_0
    replace u1_1 := keep hb3 u1_1
    replace u1_2 := keep hb3 u1_2
    replace u1_3 := keep hb3 u1_3
    replace u1_4 := keep hb3 u1_4
    replace u1_5 := keep hb3 u1_5
    replace u1_6 := keep hb3 u1_6
    replace u1_7 := keep hb3 u1_7
    replace HB := below_call HB (Nat.le_refl _) hb3
    clear hb3
    go_wp2
    go_ret
    exact ⟨rfl, HB⟩
  · have t1 : decide (at_ < 0) = false := by simpa using h
    have t2 : decide (1073741824 < at_) = true := by simpa using h2
    have HB : Below w.heap.size w (w.alloc (.cells #[.int .i64 q, .int .i64 p] 23)) := ((Below.refl _ w).alloc (by simp) _)
    have k0_0 : (w.alloc (.cells #[.int .i64 q, .int .i64 p] 23)).cell? ⟨w.heap.size, 0, none⟩ = some (.int .i64 q) := by simp
    have k0_1 : (w.alloc (.cells #[.int .i64 q, .int .i64 p] 23)).cell? ⟨w.heap.size, 1, none⟩ = some (.int .i64 p) := by simp
    go_enter Try.func4, Try.ntmps4
    go_wp2_with fail
    refine (HHN.out _).mono ?_
    rintro e w1 ⟨rfl, hb1⟩
    replace k0_0 := keep hb1 k0_0
    replace k0_1 := keep hb1 k0_1
    replace HB := below_call HB (Nat.le_refl _) hb1
    clear hb1
    have hbA : Below w1.heap.size w1 (w1.alloc (.cells #[.int .i64 0, .int .i64 0, .int .i64 0, .int .i64 0, .bool false, .int .i64 0, .int .i64 0, .int .i64 0] 35)) := (Below.refl _ _).alloc (Nat.le_refl _) _
    replace k0_0 := keep hbA k0_0
    replace k0_1 := keep hbA k0_1
    replace HB := below_call HB (Nat.le_refl _) hbA
    clear hbA
    have u1_0 : (w1.alloc (.cells #[.int .i64 0, .int .i64 0, .int .i64 0, .int .i64 0, .bool false, .int .i64 0, .int .i64 0, .int .i64 0] 35)).cell? ⟨w1.heap.size, 0, none⟩ = some (.int .i64 0) := by simp
    have u1_1 : (w1.alloc (.cells #[.int .i64 0, .int .i64 0, .int .i64 0, .int .i64 0, .bool false, .int .i64 0, .int .i64 0, .int .i64 0] 35)).cell? ⟨w1.heap.size, 1, none⟩ = some (.int .i64 0) := by simp
    have u1_2 : (w1.alloc (.cells #[.int .i64 0, .int .i64 0, .int .i64 0, .int .i64 0, .bool false, .int .i64 0, .int .i64 0, .int .i64 0] 35)).cell? ⟨w1.heap.size, 2, none⟩ = some (.int .i64 0) := by simp
    have u1_3 : (w1.alloc (.cells #[.int .i64 0, .int .i64 0, .int .i64 0, .int .i64 0, .bool false, .int .i64 0, .int .i64 0, .int .i64 0] 35)).cell? ⟨w1.heap.size, 3, none⟩ = some (.int .i64 0) := by simp
    have u1_4 : (w1.alloc (.cells #[.int .i64 0, .int .i64 0, .int .i64 0, .int .i64 0, .bool false, .int .i64 0, .int .i64 0, .int .i64 0] 35)).cell? ⟨w1.heap.size, 4, none⟩ = some (.bool false) := by simp
    have u1_5 : (w1.alloc (.cells #[.int .i64 0, .int .i64 0, .int .i64 0, .int .i64 0, .bool false, .int .i64 0, .int .i64 0, .int .i64 0] 35)).cell? ⟨w1.heap.size, 5, none⟩ = some (.int .i64 0) := by simp
    have u1_6 : (w1.alloc (.cells #[.int .i64 0, .int .i64 0, .int .i64 0, .int .i64 0, .bool false, .int .i64 0, .int .i64 0, .int .i64 0] 35)).cell? ⟨w1.heap.size, 6, none⟩ = some (.int .i64 0) := by simp
    have u1_7 : (w1.alloc (.cells #[.int .i64 0, .int .i64 0, .int .i64 0, .int .i64 0, .bool false, .int .i64 0, .int .i64 0, .int .i64 0] 35)).cell? ⟨w1.heap.size, 7, none⟩ = some (.int .i64 0) := by simp
    go_wp2_with fail
    refine (rvalid_ok q p _ hv).mono ?_
    rintro e w2 ⟨rfl, hb2⟩
    replace k0_0 := keep hb2 k0_0
    replace k0_1 := keep hb2 k0_1
    replace u1_0 := keep hb2 u1_0
    replace u1_1 := keep hb2 u1_1
    replace u1_2 := keep hb2 u1_2
    replace u1_3 := keep hb2 u1_3
    replace u1_4 := keep hb2 u1_4
    replace u1_5 := keep hb2 u1_5
    replace u1_6 := keep hb2 u1_6
    replace u1_7 := keep hb2 u1_7
    replace HB := below_call HB (Nat.le_refl _) hb2
    clear hb2
    go_wp2_with fail
    refine (sure07 _).mono ?_
    rintro e w3 ⟨rfl, hb3⟩
    replace k0_0 := keep hb3 k0_0
    replace k0_1 := keep hb3 k0_1
    replace u1_0 := keep hb3 u1_0
    replace u1_1 := keep hb3 u1_1
    replace u1_2 := keep hb3 u1_2
    replace u1_3 := keep hb3 u1_3
    replace u1_4 := keep hb3 u1_4
    replace u1_5 := keep hb3 u1_5
    replace u1_6 := keep hb3 u1_6
    replace u1_7 := keep hb3 u1_7
    replace HB := below_call HB (Nat.le_refl _) hb3
    clear hb3
    go_wp2
    go_ret
    exact ⟨rfl, HB⟩

end Go.Proofs.Ytggcahcdhjnemaa
