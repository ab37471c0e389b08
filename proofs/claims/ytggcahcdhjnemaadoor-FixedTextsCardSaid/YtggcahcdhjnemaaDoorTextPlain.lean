/- Plain: the decimal text of units of 1/2^20. -/
namespace Go.Proofs.YtggcahcdhjnemaaDoor

def fracD : Nat → Nat → List UInt8
  | 0, _ => []
  | k + 1, r => if r = 0 then [] else UInt8.ofNat (48 + r * 10 / 1048576) :: fracD k (r * 10 % 1048576)

def textL (u : Nat) : List UInt8 := UInt8.ofNat (48 + u / 1048576) :: (if u % 1048576 = 0 then [] else 46 :: fracD 20 (u % 1048576))

theorem ten_step (g r : Nat) : (10 ^ g * (r * 10 % 1048576)) % 1048576 = (10 ^ (g + 1) * r) % 1048576 := by
  rw [Nat.mul_mod, Nat.mod_mod, ← Nat.mul_mod, Nat.pow_succ]
  congr 1
  rw [Nat.mul_assoc, Nat.mul_comm 10 r]

theorem ten_start (r : Nat) : (10 ^ 20 * r) % 1048576 = 0 := by
  have : (10 : Nat) ^ 20 = 1048576 * 95367431640625 := by decide
  rw [this, Nat.mul_assoc]; exact Nat.mul_mod_right _ _

theorem fracD_zero (k : Nat) : fracD k 0 = [] := by cases k <;> simp [fracD]

theorem fracD_step (k r : Nat) (h : 0 < r) : fracD (k + 1) r = UInt8.ofNat (48 + r * 10 / 1048576) :: fracD k (r * 10 % 1048576) := by
  have : r ≠ 0 := by omega
  simp [fracD, this]

end Go.Proofs.YtggcahcdhjnemaaDoor
