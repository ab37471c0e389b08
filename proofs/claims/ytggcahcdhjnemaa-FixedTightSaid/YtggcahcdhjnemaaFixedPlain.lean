/- Plain: units of a reservation, rounded up. -/
namespace Go.Proofs.Ytggcahcdhjnemaa

theorem units_le_iff {q p : Int} (hp : 0 < p) (k : Int) : (q * 1048576 + p - 1) / p ≤ k ↔ q * 1048576 ≤ k * p := by
  have h1 : (q * 1048576 + p - 1) / p ≤ k ↔ (q * 1048576 + p - 1) / p < k + 1 := by omega
  rw [h1, Int.ediv_lt_iff_lt_mul hp, Int.add_mul]
  omega

theorem units_lo {q p : Int} (hp : 0 < p) (hq : 1 ≤ q) : 1 ≤ (q * 1048576 + p - 1) / p := by
  have h := units_le_iff (q := q) hp 0
  have : ¬ (q * 1048576 + p - 1) / p ≤ 0 := by rw [h]; omega
  omega

theorem units_hi {q p : Int} (hp : 0 < p) (hq : q ≤ p) : (q * 1048576 + p - 1) / p ≤ 1048576 := by
  rw [units_le_iff hp, Int.mul_comm]
  omega

theorem units_up {q p : Int} (hp : 0 < p) : q * 1048576 ≤ (q * 1048576 + p - 1) / p * p := (units_le_iff hp _).1 (Int.le_refl _)

theorem units_down {q p : Int} (hp : 0 < p) : ((q * 1048576 + p - 1) / p - 1) * p < q * 1048576 := by
  have h := units_le_iff (q := q) hp ((q * 1048576 + p - 1) / p - 1)
  have : ¬ q * 1048576 ≤ ((q * 1048576 + p - 1) / p - 1) * p := by rw [← h]; omega
  omega

theorem units_mono {q p r s : Int} (hp : 0 < p) (hs : 0 < s) (h : q * s ≤ r * p) : (q * 1048576 + p - 1) / p ≤ (r * 1048576 + s - 1) / s := by
  rw [units_le_iff hp]
  have h1 := units_up (q := r) hs
  generalize (r * 1048576 + s - 1) / s = n at h1 ⊢
  have h2 : (q * 1048576) * s ≤ (n * p) * s := by
    calc (q * 1048576) * s = (q * s) * 1048576 := by simp only [Int.mul_assoc, Int.mul_comm s]
      _ ≤ (r * p) * 1048576 := by omega
      _ = p * (r * 1048576) := by rw [Int.mul_comm r p, Int.mul_assoc]
      _ ≤ p * (n * s) := Int.mul_le_mul_of_nonneg_left h1 (by omega)
      _ = (n * p) * s := by rw [← Int.mul_assoc, Int.mul_comm p n]
  exact Int.le_of_mul_le_mul_right h2 hs

theorem most_lo {q p n : Int} (h : q * 1048576 ≤ n * p) : q ≤ n * p / 1048576 := by omega

theorem most_hi {p n : Int} (hp : 0 < p) (h : n ≤ 1048576) : n * p / 1048576 ≤ p := by
  have : n * p ≤ 1048576 * p := Int.mul_le_mul_of_nonneg_right h (by omega)
  omega

theorem most_back {p n : Int} (hp : 0 < p) : (n * p / 1048576 * 1048576 + p - 1) / p ≤ n := by
  rw [units_le_iff hp]
  omega

end Go.Proofs.Ytggcahcdhjnemaa
