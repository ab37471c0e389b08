/- Plain: the digits of a text of units, read again. -/
import Derived.Test.YtggcahcdhjnemaaDoorTextPlain
namespace Go.Proofs.YtggcahcdhjnemaaDoor

theorem fracD_len (k : Nat) : ∀ r, (fracD k r).length ≤ k := by
  induction k with
  | zero => intro r; simp [fracD]
  | succ k ih =>
    intro r
    by_cases h : r = 0
    · simp [fracD, h]
    · rw [fracD_step k r (by omega)]; simp [ih]

theorem fracD_nil {k r : Nat} (hr : 0 < r) (hk : 0 < k) : fracD k r ≠ [] := by
  obtain ⟨k, rfl⟩ : ∃ j, k = j + 1 := ⟨k - 1, by omega⟩
  rw [fracD_step k r hr]; simp

/-- The remainder behind j digits. -/
def remD : Nat → Nat → Nat
  | 0, r => r
  | j + 1, r => remD j (r * 10 % 1048576)

theorem remD_snoc (j r : Nat) : remD (j + 1) r = remD j r * 10 % 1048576 := by
  induction j generalizing r with
  | zero => rfl
  | succ j ih => rw [remD, ih, remD]

theorem remD_zero (j : Nat) : remD j 0 = 0 := by
  induction j with
  | zero => rfl
  | succ j ih => rw [remD]; simpa using ih

theorem remD_eq (j r : Nat) (hr : r < 1048576) : remD j r = r * 10 ^ j % 1048576 := by
  induction j generalizing r with
  | zero => simp [remD, Nat.mod_eq_of_lt hr]
  | succ j ih => rw [remD, ih _ (Nat.mod_lt _ (by decide)), Nat.mod_mul_mod, Nat.mul_assoc, Nat.pow_succ, Nat.mul_comm (10 ^ j) 10]

theorem remD_lt (j r : Nat) (hr : r < 1048576) : remD j r < 1048576 := by rw [remD_eq j r hr]; exact Nat.mod_lt _ (by decide)

/-- The digit at a place, where there is one. -/
theorem fracD_at (k j r : Nat) (hj : j < (fracD k r).length) : 0 < remD j r ∧ (fracD k r)[j]? = some (UInt8.ofNat (48 + remD j r * 10 / 1048576)) := by
  induction k generalizing j r with
  | zero => simp [fracD] at hj
  | succ k ih =>
    by_cases h : r = 0
    · simp [fracD, h] at hj
    · rw [fracD_step k r (by omega)] at hj ⊢
      cases j with
      | zero => simp [remD]; omega
      | succ j =>
        simp only [List.length_cons, Nat.add_lt_add_iff_right] at hj
        rw [List.getElem?_cons_succ, remD]; exact ih j _ hj

/-- Behind the last digit nothing remains, if there is room. -/
theorem fracD_end (k r : Nat) (h : (10 ^ k * r) % 1048576 = 0) (hr : r < 1048576) : remD (fracD k r).length r = 0 := by
  induction k generalizing r with
  | zero => simp at h; simp [fracD, remD]; omega
  | succ k ih =>
    by_cases h0 : r = 0
    · subst h0; simp [fracD, remD]
    · rw [fracD_step k r (by omega)]
      simp only [List.length_cons, remD]
      exact ih _ ((ten_step k r).trans h) (Nat.mod_lt _ (by decide))

/-- The whole number of the first j digits. -/
def numD (j r : Nat) : Nat := r * 10 ^ j / 1048576

theorem numD_step (j r : Nat) (hr : r < 1048576) : numD (j + 1) r = 10 * numD j r + remD j r * 10 / 1048576 := by
  rw [numD, numD, remD_eq j r hr, Nat.pow_succ, ← Nat.mul_assoc]
  have := Nat.div_add_mod (r * 10 ^ j) 1048576
  omega

theorem near_eq (j r : Nat) (hr : r < 1048576) (h : j = 9 ∨ (j ≤ 9 ∧ remD j r = 0)) : (2 * numD j r * 1048576 + 10 ^ j) / (2 * 10 ^ j) = r := by
  have e := remD_eq j r hr
  have d := Nat.div_add_mod (r * 10 ^ j) 1048576
  have m := Nat.mod_lt (r * 10 ^ j) (show 0 < 1048576 by decide)
  have hp : 0 < 10 ^ j := Nat.pow_pos (by decide)
  unfold numD
  rw [Nat.div_eq_of_lt_le]
  · rcases h with rfl | ⟨_, h0⟩
    · have : (10 : Nat) ^ 9 = 1000000000 := by decide
      rw [this] at *
      omega
    · rw [e] at h0
      rw [h0] at d
      generalize 10 ^ j = s at *
      have : r * (2 * s) = 2 * (r * s) := by rw [← Nat.mul_assoc, Nat.mul_comm r 2, Nat.mul_assoc]
      rw [this]
      omega
  · rcases h with rfl | ⟨_, h0⟩
    · have : (10 : Nat) ^ 9 = 1000000000 := by decide
      rw [this] at *
      omega
    · generalize 10 ^ j = s at *
      have : (r + 1) * (2 * s) = 2 * (r * s) + 2 * s := by rw [Nat.add_mul, ← Nat.mul_assoc, Nat.mul_comm r 2, Nat.mul_assoc]; omega
      rw [this]
      omega

end Go.Proofs.YtggcahcdhjnemaaDoor
