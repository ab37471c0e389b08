/- The reference's Units, Share, Most, Compare, by contract. -/
import Derived.Test.YtggcahcdhjnemaaDoorFixed2
set_option linter.unusedVariables false
set_option linter.unusedSimpArgs false
namespace Go.Proofs.YtggcahcdhjnemaaDoor
open Go.RowKit

theorem runits_ok (q p : Int) (w : World) (h : Vld q p) :
    Calls Tryd.prog 51 #[.agg #[.int .i64 q, .int .i64 p]] w fun e w' => e = .returned (.int .i64 (unitsOf q p)) ∧ Below w.heap.size w w' := by
  have h1 := h.lo; have h2 := h.top; have h3 := h.le
  go_enter Tryd.func51, Tryd.ntmps51
  go_wp2
  go_ret
  exact ⟨rfl, (Below.refl _ _).alloc (Nat.le_refl _) _⟩

theorem rshare_ok (q p : Int) (w : World) (h : Vld q p) :
    Calls Tryd.prog 19 #[.agg #[.int .i64 q, .int .i64 p]] w fun e w' => e = .returned (.tuple #[.int .i64 (unitsOf q p), .int .i64 0]) ∧ Below w.heap.size w w' := by
  have HB : Below w.heap.size w (w.alloc (.cells #[.int .i64 q, .int .i64 p] 23)) := ((Below.refl _ w).alloc (by simp) _)
  have k0_0 : (w.alloc (.cells #[.int .i64 q, .int .i64 p] 23)).cell? ⟨w.heap.size, 0, none⟩ = some (.int .i64 q) := by simp
  have k0_1 : (w.alloc (.cells #[.int .i64 q, .int .i64 p] 23)).cell? ⟨w.heap.size, 1, none⟩ = some (.int .i64 p) := by simp
  go_enter Tryd.func19, Tryd.ntmps19
  go_wp2_with fail
  refine (rvalid_ok q p _ h).mono ?_
  rintro e w1 ⟨rfl, hb1⟩
  replace k0_0 := keep hb1 k0_0
  replace k0_1 := keep hb1 k0_1
  replace HB := below_call HB (Nat.le_refl _) hb1
  clear hb1
  go_wp2_with fail
  refine (runits_ok q p _ h).mono ?_
  rintro e w2 ⟨rfl, hb2⟩
  replace k0_0 := keep hb2 k0_0
  replace k0_1 := keep hb2 k0_1
  replace HB := below_call HB (Nat.le_refl _) hb2
  clear hb2
  go_wp2
  go_ret2
  exact ⟨rfl, HB⟩

theorem rshare_bad (q p : Int) (w : World) (h : ¬ Vld q p) :
    Calls Tryd.prog 19 #[.agg #[.int .i64 q, .int .i64 p]] w fun e w' => e = .returned (.tuple #[.int .i64 0, .int .i64 2]) ∧ Below w.heap.size w w' := by
  have HB : Below w.heap.size w (w.alloc (.cells #[.int .i64 q, .int .i64 p] 23)) := ((Below.refl _ w).alloc (by simp) _)
  have k0_0 : (w.alloc (.cells #[.int .i64 q, .int .i64 p] 23)).cell? ⟨w.heap.size, 0, none⟩ = some (.int .i64 q) := by simp
  have k0_1 : (w.alloc (.cells #[.int .i64 q, .int .i64 p] 23)).cell? ⟨w.heap.size, 1, none⟩ = some (.int .i64 p) := by simp
  go_enter Tryd.func19, Tryd.ntmps19
  go_wp2_with fail
  refine (rvalid_bad q p _ h).mono ?_
  rintro e w1 ⟨rfl, hb1⟩
  replace k0_0 := keep hb1 k0_0
  replace k0_1 := keep hb1 k0_1
  replace HB := below_call HB (Nat.le_refl _) hb1
  clear hb1
  go_wp2
  go_ret2
  exact ⟨rfl, HB⟩

theorem rmost_ok (u p : Int) (w : World) (h1 : 0 ≤ u) (h2 : u ≤ 1048576) (h3 : 1 ≤ p) (h4 : p ≤ 1048576) :
    Calls Tryd.prog 31 #[.int .i64 u, .int .i64 p] w fun e w' => e = .returned (.tuple #[.int .i64 (u * p / 1048576), .int .i64 0]) ∧ w = w' := by
  have c1 : decide (u < 0) = false := by simp; omega
  have c2 : decide (1048576 < u) = false := by simp; omega
  have c3 : decide (p < 1) = false := by simp; omega
  have c4 : decide (1048576 < p) = false := by simp; omega
  have h5 : 0 ≤ u * p := Int.mul_nonneg h1 (by omega)
  have h6 : u * p ≤ 1048576 * 1048576 := Int.mul_le_mul h2 h4 (by omega) (by omega)
  go_enter Tryd.func31, Tryd.ntmps31
  go_wp2
  go_ret2
  exact ⟨rfl, rfl⟩

theorem badArg {u : Int} (h : ¬ (0 ≤ u ∧ u ≤ 1048576)) : decide (u < 0) = true ∨ (decide (u < 0) = false ∧ decide (1048576 < u) = true) := by
  simp only [decide_eq_true_eq, decide_eq_false_iff_not]
  omega
theorem badPer {p : Int} (h : ¬ (1 ≤ p ∧ p ≤ 1048576)) : decide (p < 1) = true ∨ (decide (p < 1) = false ∧ decide (1048576 < p) = true) := by
  simp only [decide_eq_true_eq, decide_eq_false_iff_not]
  omega

theorem most_arg (u p : Int) (w : World) (h : ¬ (0 ≤ u ∧ u ≤ 1048576)) :
    Calls Tryd.prog 30 #[.int .i64 u, .int .i64 p] w fun e w' => e = .returned (.tuple #[.int .i64 0, .iface 83 (.int .i64 1)]) ∧ w = w' := by
  rcases badArg h with c1 | ⟨c1, c2⟩
  all_goals
    clear h
    go_enter Tryd.func30, Tryd.ntmps30
    go_wp2
    go_ret2
    exact ⟨rfl, rfl⟩
theorem rmost_arg (u p : Int) (w : World) (h : ¬ (0 ≤ u ∧ u ≤ 1048576)) :
    Calls Tryd.prog 31 #[.int .i64 u, .int .i64 p] w fun e w' => e = .returned (.tuple #[.int .i64 0, .int .i64 1]) ∧ w = w' := by
  rcases badArg h with c1 | ⟨c1, c2⟩
  all_goals
    clear h
    go_enter Tryd.func31, Tryd.ntmps31
    go_wp2
    go_ret2
    exact ⟨rfl, rfl⟩
theorem most_range (u p : Int) (w : World) (h1 : 0 ≤ u) (h2 : u ≤ 1048576) (h : ¬ (1 ≤ p ∧ p ≤ 1048576)) :
    Calls Tryd.prog 30 #[.int .i64 u, .int .i64 p] w fun e w' => e = .returned (.tuple #[.int .i64 0, .iface 83 (.int .i64 2)]) ∧ w = w' := by
  have c1 : decide (u < 0) = false := by simp; omega
  have c2 : decide (1048576 < u) = false := by simp; omega
  rcases badPer h with c3 | ⟨c3, c4⟩
  all_goals
    clear h
    go_enter Tryd.func30, Tryd.ntmps30
    go_wp2
    go_ret2
    exact ⟨rfl, rfl⟩
theorem rmost_range (u p : Int) (w : World) (h1 : 0 ≤ u) (h2 : u ≤ 1048576) (h : ¬ (1 ≤ p ∧ p ≤ 1048576)) :
    Calls Tryd.prog 31 #[.int .i64 u, .int .i64 p] w fun e w' => e = .returned (.tuple #[.int .i64 0, .int .i64 2]) ∧ w = w' := by
  have c1 : decide (u < 0) = false := by simp; omega
  have c2 : decide (1048576 < u) = false := by simp; omega
  rcases badPer h with c3 | ⟨c3, c4⟩
  all_goals
    clear h
    go_enter Tryd.func31, Tryd.ntmps31
    go_wp2
    go_ret2
    exact ⟨rfl, rfl⟩

set_option maxHeartbeats 1000000 in
theorem rcompare_ok (q p r s : Int) (w : World) (ha : Vld q p) (hb : Vld r s) :
    Calls Tryd.prog 33 #[.agg #[.int .i64 q, .int .i64 p], .agg #[.int .i64 r, .int .i64 s]] w fun e w' => e = .returned (.tuple #[.int .i64 (sign3 (q * s) (r * p)), .int .i64 0]) ∧ Below w.heap.size w w' := by
  have a1 := ha.lo; have a2 := ha.top; have a3 := ha.le
  have b1 := hb.lo; have b2 := hb.top; have b3 := hb.le
  have m1 : 0 ≤ q * s := Int.mul_nonneg (by omega) (by omega)
  have m2 : q * s ≤ 1048576 * 1048576 := Int.mul_le_mul (by omega) (by omega) (by omega) (by omega)
  have m3 : 0 ≤ r * p := Int.mul_nonneg (by omega) (by omega)
  have m4 : r * p ≤ 1048576 * 1048576 := Int.mul_le_mul (by omega) (by omega) (by omega) (by omega)
  have HB : Below w.heap.size w ((w.alloc (.cells #[.int .i64 q, .int .i64 p] 23)).alloc (.cells #[.int .i64 r, .int .i64 s] 23)) := (((Below.refl _ w).alloc (by simp) _).alloc (by simp) _)
  have k0_0 : ((w.alloc (.cells #[.int .i64 q, .int .i64 p] 23)).alloc (.cells #[.int .i64 r, .int .i64 s] 23)).cell? ⟨w.heap.size, 0, none⟩ = some (.int .i64 q) := by simp
  have k0_1 : ((w.alloc (.cells #[.int .i64 q, .int .i64 p] 23)).alloc (.cells #[.int .i64 r, .int .i64 s] 23)).cell? ⟨w.heap.size, 1, none⟩ = some (.int .i64 p) := by simp
  have k1_0 : ((w.alloc (.cells #[.int .i64 q, .int .i64 p] 23)).alloc (.cells #[.int .i64 r, .int .i64 s] 23)).cell? ⟨w.heap.size + 1, 0, none⟩ = some (.int .i64 r) := by simp
  have k1_1 : ((w.alloc (.cells #[.int .i64 q, .int .i64 p] 23)).alloc (.cells #[.int .i64 r, .int .i64 s] 23)).cell? ⟨w.heap.size + 1, 1, none⟩ = some (.int .i64 s) := by simp
  go_enter Tryd.func33, Tryd.ntmps33
  go_wp2_with fail
  refine (rvalid_ok q p _ ha).mono ?_
  rintro e w1 ⟨rfl, hb1⟩
  replace k0_0 := keep hb1 k0_0
  replace k0_1 := keep hb1 k0_1
  replace k1_0 := keep hb1 k1_0
  replace k1_1 := keep hb1 k1_1
  replace HB := below_call HB (Nat.le_refl _) hb1
  clear hb1
  go_wp2_with fail
  refine (rvalid_ok r s _ hb).mono ?_
  rintro e w2 ⟨rfl, hb2⟩
  replace k0_0 := keep hb2 k0_0
  replace k0_1 := keep hb2 k0_1
  replace k1_0 := keep hb2 k1_0
  replace k1_1 := keep hb2 k1_1
  replace HB := below_call HB (Nat.le_refl _) hb2
  clear hb2
  have e1 : IntKind.i64.wrap (q * s) = q * s := IntWalk.i64_in _ (by omega)
  have e2 : IntKind.i64.wrap (r * p) = r * p := IntWalk.i64_in _ (by omega)
  go_wp2_with fail
  go_quiet (fail)
  clear e1 e2
  go_wp2_with fail
  · have h1 : q * s < r * p := by assumption
    go_ret2
    exact ⟨by simp [sign3, h1], below_drewN' HB _⟩
  · have h1 : r * p ≤ q * s := by assumption
    have h2 : r * p < q * s := by assumption
    go_ret2
    exact ⟨by simp [sign3, Int.not_lt.2 h1, h2], below_drewN' HB _⟩
  · have h1 : r * p ≤ q * s := by assumption
    have h2 : q * s ≤ r * p := by assumption
    go_ret2
    exact ⟨by simp [sign3, Int.not_lt.2 h1, Int.not_lt.2 h2], below_drewN' HB _⟩

theorem rcompare_bad (q p r s : Int) (w : World) (h : ¬ (Vld q p ∧ Vld r s)) :
    Calls Tryd.prog 33 #[.agg #[.int .i64 q, .int .i64 p], .agg #[.int .i64 r, .int .i64 s]] w fun e w' => e = .returned (.tuple #[.int .i64 0, .int .i64 2]) ∧ Below w.heap.size w w' := by
  by_cases ha : Vld q p
  · have hb : ¬ Vld r s := fun k => h ⟨ha, k⟩
    clear h
    have HB : Below w.heap.size w ((w.alloc (.cells #[.int .i64 q, .int .i64 p] 23)).alloc (.cells #[.int .i64 r, .int .i64 s] 23)) := (((Below.refl _ w).alloc (by simp) _).alloc (by simp) _)
    have k0_0 : ((w.alloc (.cells #[.int .i64 q, .int .i64 p] 23)).alloc (.cells #[.int .i64 r, .int .i64 s] 23)).cell? ⟨w.heap.size, 0, none⟩ = some (.int .i64 q) := by simp
    have k0_1 : ((w.alloc (.cells #[.int .i64 q, .int .i64 p] 23)).alloc (.cells #[.int .i64 r, .int .i64 s] 23)).cell? ⟨w.heap.size, 1, none⟩ = some (.int .i64 p) := by simp
    have k1_0 : ((w.alloc (.cells #[.int .i64 q, .int .i64 p] 23)).alloc (.cells #[.int .i64 r, .int .i64 s] 23)).cell? ⟨w.heap.size + 1, 0, none⟩ = some (.int .i64 r) := by simp
    have k1_1 : ((w.alloc (.cells #[.int .i64 q, .int .i64 p] 23)).alloc (.cells #[.int .i64 r, .int .i64 s] 23)).cell? ⟨w.heap.size + 1, 1, none⟩ = some (.int .i64 s) := by simp
    go_enter Tryd.func33, Tryd.ntmps33
    go_wp2_with fail
    refine (rvalid_ok q p _ ha).mono ?_
    rintro e w1 ⟨rfl, hb1⟩
    replace k0_0 := keep hb1 k0_0
    replace k0_1 := keep hb1 k0_1
    replace k1_0 := keep hb1 k1_0
    replace k1_1 := keep hb1 k1_1
    replace HB := below_call HB (Nat.le_refl _) hb1
    clear hb1
    go_wp2_with fail
    refine (rvalid_bad r s _ hb).mono ?_
    rintro e w2 ⟨rfl, hb2⟩
    replace k0_0 := keep hb2 k0_0
    replace k0_1 := keep hb2 k0_1
    replace k1_0 := keep hb2 k1_0
    replace k1_1 := keep hb2 k1_1
    replace HB := below_call HB (Nat.le_refl _) hb2
    clear hb2
    go_wp2
    go_ret2
    exact ⟨rfl, HB⟩
  · clear h
    have HB : Below w.heap.size w ((w.alloc (.cells #[.int .i64 q, .int .i64 p] 23)).alloc (.cells #[.int .i64 r, .int .i64 s] 23)) := ((Below.refl _ w).alloc (by simp) _).alloc (by simp) _
    go_enter Tryd.func33, Tryd.ntmps33
    go_wp2_with fail
    refine (rvalid_bad q p _ ha).mono ?_
    rintro e w1 ⟨rfl, hb1⟩
    replace HB := below_call HB (Nat.le_refl _) hb1
    clear hb1
    go_wp2
    go_ret2
    exact ⟨rfl, HB⟩

end Go.Proofs.YtggcahcdhjnemaaDoor
