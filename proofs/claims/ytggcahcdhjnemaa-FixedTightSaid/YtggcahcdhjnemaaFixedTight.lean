/- FixedTight's walk: the call returns true. -/
import Derived.Test.YtggcahcdhjnemaaSure01
import Derived.Test.YtggcahcdhjnemaaFixed2
import Derived.Test.YtggcahcdhjnemaaFixedPlain
set_option linter.unusedVariables false
set_option linter.unusedSimpArgs false
namespace Go.Proofs.Ytggcahcdhjnemaa
open Go.RowKit

set_option maxHeartbeats 4000000 in
set_option maxRecDepth 100000 in
theorem tight_ok (q p r s : Int) (w : World) (ha : Vld q p) (hb : Vld r s) :
    Calls Try.prog 3 #[.agg #[.int .i64 q, .int .i64 p], .agg #[.int .i64 r, .int .i64 s]] w fun e w' => e = .returned (.bool true) ∧ Below w.heap.size w w' := by
  have a1 := ha.lo; have a2 := ha.top; have a3 := ha.le
  have b1 := hb.lo; have b2 := hb.top; have b3 := hb.le
  have n1 : 1 ≤ unitsOf q p := units_lo (by omega) a1
  have n2 : unitsOf q p ≤ 1048576 := units_hi (by omega) a3
  have n3 : q * 1048576 ≤ unitsOf q p * p := units_up (by omega)
  have n4 : (unitsOf q p - 1) * p < q * 1048576 := units_down (by omega)
  have m1 : 1 ≤ unitsOf r s := units_lo (by omega) b1
  have m2 : unitsOf r s ≤ 1048576 := units_hi (by omega) b3
  have n5 : unitsOf q p * p ≤ 1048576 * 1048576 := Int.mul_le_mul n2 a2 (by omega) (by omega)
  have n6 : 0 ≤ (unitsOf q p - 1) * p := Int.mul_nonneg (by omega) (by omega)
  have v1 : q ≤ unitsOf q p * p / 1048576 := most_lo n3
  have v2 : unitsOf q p * p / 1048576 ≤ p := most_hi (by omega) n2
  have v3 : unitsOf (unitsOf q p * p / 1048576) p ≤ unitsOf q p := most_back (by omega)
  have vv : Vld (unitsOf q p * p / 1048576) p := ⟨by omega, a2, v2⟩
  have hcmp : (sign3 (q * s) (r * p) = -1 ∧ decide (unitsOf r s < unitsOf q p) = false) ∨ (sign3 (q * s) (r * p) = 1 ∧ decide (unitsOf q p < unitsOf r s) = false) ∨ (sign3 (q * s) (r * p) = 0 ∧ (unitsOf q p != unitsOf r s) = false) := by
    rcases Int.lt_trichotomy (q * s) (r * p) with h | h | h
    · refine Or.inl ⟨by simp [sign3, h], ?_⟩
      have := units_mono (q := q) (p := p) (r := r) (s := s) (by omega) (by omega) (by omega)
      have : unitsOf q p ≤ unitsOf r s := this
      simp; omega
    · refine Or.inr (Or.inr ⟨by simp [sign3, h], ?_⟩)
      have h1 := units_mono (q := q) (p := p) (r := r) (s := s) (by omega) (by omega) (by omega)
      have h2 := units_mono (q := r) (p := s) (r := q) (s := p) (by omega) (by omega) (by omega)
      have h1 : unitsOf q p ≤ unitsOf r s := h1
      have h2 : unitsOf r s ≤ unitsOf q p := h2
      simp; omega
    · refine Or.inr (Or.inl ⟨by simp [sign3, h, Int.not_lt.2 (Int.le_of_lt h)], ?_⟩)
      have := units_mono (q := r) (p := s) (r := q) (s := p) (by omega) (by omega) (by omega)
      have : unitsOf r s ≤ unitsOf q p := this
      simp; omega
  have d1 : decide (unitsOf q p < 1) = false := by simp; omega
  have d2 : decide (1048576 < unitsOf q p) = false := by simp; omega
  have d3 : decide (unitsOf q p * p < q * 1048576) = false := by simp; omega
  have d4 : decide (q * 1048576 ≤ (unitsOf q p - 1) * p) = false := by simp; omega
  have HC := Lib.hid hcmp
  have V3 := Lib.hid v3
  clear hcmp v3
  go_enter Try.func3, Try.ntmps3
  go_wp2_with fail
  refine (share_ok q p _ ha).mono ?_
  rintro e w1 ⟨rfl, hb1⟩
  have k0 : w1.cell? ⟨w.heap.size, 0, none⟩ = some (.int .i64 q) := by rw [(bcell hb1).1 _ _ (by simp; omega)]; simp
  have k1 : w1.cell? ⟨w.heap.size, 1, none⟩ = some (.int .i64 p) := by rw [(bcell hb1).1 _ _ (by simp; omega)]; simp
  have l0 : w1.cell? ⟨w.heap.size + 1, 0, none⟩ = some (.int .i64 r) := by rw [(bcell hb1).1 _ _ (by simp)]; simp
  have l1 : w1.cell? ⟨w.heap.size + 1, 1, none⟩ = some (.int .i64 s) := by rw [(bcell hb1).1 _ _ (by simp)]; simp
  have z1 : w.heap.size + 1 < w1.heap.size := by have := hb1.size; simp at this; omega
  have HB : Below w.heap.size w w1 := (((Below.refl _ w).alloc (Nat.le_refl _) _).alloc (by simp) _).trans (hb1.mono (by simp; omega))
  clear hb1
  go_wp2_with fail
  refine (share_ok r s _ hb).mono ?_
  rintro e w2 ⟨rfl, hb2⟩
  replace k0 := keep hb2 k0
  replace k1 := keep hb2 k1
  replace l0 := keep hb2 l0
  replace l1 := keep hb2 l1
  replace z1 := Nat.lt_of_lt_of_le z1 hb2.size
  replace HB := below_call HB (Nat.le_refl _) hb2
  clear hb2
  go_wp2_with fail
  refine (compare_ok q p r s _ ha hb).mono ?_
  rintro e w3 ⟨rfl, hb3⟩
  replace k0 := keep hb3 k0
  replace k1 := keep hb3 k1
  replace l0 := keep hb3 l0
  replace l1 := keep hb3 l1
  replace z1 := Nat.lt_of_lt_of_le z1 hb3.size
  replace HB := below_call HB (Nat.le_refl _) hb3
  clear hb3
  obtain ⟨c, hc⟩ : ∃ c, c = sign3 (q * s) (r * p) := ⟨_, rfl⟩
  rw [← hc]
  have HC' : (c = -1 ∧ decide (unitsOf r s < unitsOf q p) = false) ∨ (c = 1 ∧ decide (unitsOf q p < unitsOf r s) = false) ∨ (c = 0 ∧ (unitsOf q p != unitsOf r s) = false) := by rw [hc]; exact HC.out
  clear HC hc
  go_wp2_with fail
  refine (rvalid_ok q p _ ha).mono ?_
  rintro e w4 ⟨rfl, hb4⟩
  replace k0 := keep hb4 k0
  replace k1 := keep hb4 k1
  replace l0 := keep hb4 l0
  replace l1 := keep hb4 l1
  replace z1 := Nat.lt_of_lt_of_le z1 hb4.size
  replace HB := below_call HB (Nat.le_refl _) hb4
  clear hb4
  go_wp2_with fail
  refine (rvalid_ok r s _ hb).mono ?_
  rintro e w5 ⟨rfl, hb5⟩
  replace k0 := keep hb5 k0
  replace k1 := keep hb5 k1
  replace l0 := keep hb5 l0
  replace l1 := keep hb5 l1
  replace z1 := Nat.lt_of_lt_of_le z1 hb5.size
  replace HB := below_call HB (Nat.le_refl _) hb5
  clear hb5
  rcases HC' with ⟨rfl, hn⟩ | ⟨rfl, hn⟩ | ⟨rfl, hn⟩
  all_goals
    go_wp2_with fail
    refine (most_ok _ p _ (by omega) (by omega) (by omega) (by omega)).mono ?_
    rintro e w6 ⟨rfl, rfl⟩
    go_wp2_with fail
    refine (share_ok _ p _ vv).mono ?_
    rintro e w7 ⟨rfl, hb7⟩
    replace HB := below_call HB (Nat.le_refl _) hb7
    replace k0 := keep hb7 k0
    clear hb7
    have d5 : decide (q ≤ unitsOf q p * p / 1048576) = true := by simp; omega
    have d6 : decide (unitsOf (unitsOf q p * p / 1048576) p ≤ unitsOf q p) = true := by have := V3.out; simp; omega
    go_wp2_with fail
    refine (sure01 _).mono ?_
    rintro e w8 ⟨rfl, hb8⟩
    go_wp2
    go_ret
    exact ⟨rfl, below_call HB (Nat.le_refl _) hb8⟩

set_option maxHeartbeats 2000000 in
set_option maxRecDepth 100000 in
theorem tight_bad (q p r s : Int) (w : World) (h : ¬ (Vld q p ∧ Vld r s)) :
    Calls Try.prog 3 #[.agg #[.int .i64 q, .int .i64 p], .agg #[.int .i64 r, .int .i64 s]] w fun e w' => e = .returned (.bool true) ∧ Below w.heap.size w w' := by
  have cases : (Vld q p ∧ ¬ Vld r s) ∨ (¬ Vld q p ∧ Vld r s) ∨ (¬ Vld q p ∧ ¬ Vld r s) := by
    by_cases ha : Vld q p
    · exact Or.inl ⟨ha, fun k => h ⟨ha, k⟩⟩
    · by_cases hb : Vld r s
      · exact Or.inr (Or.inl ⟨ha, hb⟩)
      · exact Or.inr (Or.inr ⟨ha, hb⟩)
  have H := Lib.hid h
  clear h
  rcases cases with ⟨ha, hb⟩ | ⟨ha, hb⟩ | ⟨ha, hb⟩
  all_goals
    have HA := Lib.hid ha
    have HBb := Lib.hid hb
    clear ha hb
    go_enter Try.func3, Try.ntmps3
    go_wp2_with fail
    first
      | refine (share_ok q p _ HA.out).mono ?_
      | refine (share_bad q p _ HA.out).mono ?_
    rintro e w1 ⟨rfl, hb1⟩
    have k0 : w1.cell? ⟨w.heap.size, 0, none⟩ = some (.int .i64 q) := by rw [(bcell hb1).1 _ _ (by simp; omega)]; simp
    have k1 : w1.cell? ⟨w.heap.size, 1, none⟩ = some (.int .i64 p) := by rw [(bcell hb1).1 _ _ (by simp; omega)]; simp
    have l0 : w1.cell? ⟨w.heap.size + 1, 0, none⟩ = some (.int .i64 r) := by rw [(bcell hb1).1 _ _ (by simp)]; simp
    have l1 : w1.cell? ⟨w.heap.size + 1, 1, none⟩ = some (.int .i64 s) := by rw [(bcell hb1).1 _ _ (by simp)]; simp
    have z1 : w.heap.size + 1 < w1.heap.size := by have := hb1.size; simp at this; omega
    have HB : Below w.heap.size w w1 := (((Below.refl _ w).alloc (Nat.le_refl _) _).alloc (by simp) _).trans (hb1.mono (by simp; omega))
    clear hb1
    go_wp2_with fail
    first
      | refine (share_ok r s _ HBb.out).mono ?_
      | refine (share_bad r s _ HBb.out).mono ?_
    rintro e w2 ⟨rfl, hb2⟩
    replace k0 := keep hb2 k0
    replace k1 := keep hb2 k1
    replace l0 := keep hb2 l0
    replace l1 := keep hb2 l1
    replace z1 := Nat.lt_of_lt_of_le z1 hb2.size
    replace HB := below_call HB (Nat.le_refl _) hb2
    clear hb2
    go_wp2_with fail
    refine (compare_bad q p r s _ H.out).mono ?_
    rintro e w3 ⟨rfl, hb3⟩
    replace k0 := keep hb3 k0
    replace k1 := keep hb3 k1
    replace l0 := keep hb3 l0
    replace l1 := keep hb3 l1
    replace z1 := Nat.lt_of_lt_of_le z1 hb3.size
    replace HB := below_call HB (Nat.le_refl _) hb3
    clear hb3
    go_wp2_with fail
    first
      | refine (rvalid_ok q p _ HA.out).mono ?_
      | refine (rvalid_bad q p _ HA.out).mono ?_
    rintro e w4 ⟨rfl, hb4⟩
    replace k0 := keep hb4 k0
    replace k1 := keep hb4 k1
    replace l0 := keep hb4 l0
    replace l1 := keep hb4 l1
    replace z1 := Nat.lt_of_lt_of_le z1 hb4.size
    replace HB := below_call HB (Nat.le_refl _) hb4
    clear hb4
    go_wp2_with fail
    try
      refine (rvalid_bad r s _ HBb.out).mono ?_
      rintro e w5 ⟨rfl, hb5⟩
      replace HB := below_call HB (Nat.le_refl _) hb5
      clear hb5
      go_wp2_with fail
    refine (sure01 _).mono ?_
    rintro e w8 ⟨rfl, hb8⟩
    go_wp2
    go_ret
    exact ⟨rfl, below_call HB (Nat.le_refl _) hb8⟩

theorem tight_any (q p r s : Int) (w : World) :
    Calls Try.prog 3 #[.agg #[.int .i64 q, .int .i64 p], .agg #[.int .i64 r, .int .i64 s]] w fun e w' => e = .returned (.bool true) ∧ Below w.heap.size w w' := by
  by_cases h : Vld q p ∧ Vld r s
  · exact tight_ok q p r s w h.1 h.2
  · exact tight_bad q p r s w h

end Go.Proofs.Ytggcahcdhjnemaa
