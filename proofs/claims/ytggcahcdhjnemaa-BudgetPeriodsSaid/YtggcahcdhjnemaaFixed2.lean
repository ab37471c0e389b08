/- fixed.Compare and Most, by contract. -/
import Derived.Test.YtggcahcdhjnemaaFixed1
set_option linter.unusedVariables false
set_option linter.unusedSimpArgs false
namespace Go.Proofs.Ytggcahcdhjnemaa
open Go.RowKit

theorem most_ok (u p : Int) (w : World) (h1 : 0 ≤ u) (h2 : u ≤ 1048576) (h3 : 1 ≤ p) (h4 : p ≤ 1048576) :
    Calls Try.prog 9 #[.int .i64 u, .int .i64 p] w fun e w' => e = .returned (.tuple #[.int .i64 (u * p / 1048576), .nilIface]) ∧ w = w' := by
  have c1 : decide (u < 0) = false := by simp; omega
  have c2 : decide (1048576 < u) = false := by simp; omega
  have c3 : decide (p < 1) = false := by simp; omega
  have c4 : decide (1048576 < p) = false := by simp; omega
  have h5 : 0 ≤ u * p := Int.mul_nonneg h1 (by omega)
  have h6 : u * p ≤ 1048576 * 1048576 := Int.mul_le_mul h2 h4 (by omega) (by omega)
  go_enter Try.func9, Try.ntmps9
  go_wp2
  go_ret2
  exact ⟨rfl, rfl⟩

/-- -1, 0, 1. -/
def sign3 (x y : Int) : Int := if x < y then -1 else if y < x then 1 else 0

theorem compare_ok (q p r s : Int) (w : World) (ha : Vld q p) (hb : Vld r s) :
    Calls Try.prog 6 #[.agg #[.int .i64 q, .int .i64 p], .agg #[.int .i64 r, .int .i64 s]] w fun e w' => e = .returned (.tuple #[.int .i64 (sign3 (q * s) (r * p)), .nilIface]) ∧ Below w.heap.size w w' := by
  have a1 := ha.lo; have a2 := ha.top; have a3 := ha.le
  have b1 := hb.lo; have b2 := hb.top; have b3 := hb.le
  have m1 : 0 ≤ q * s := Int.mul_nonneg (by omega) (by omega)
  have m2 : q * s ≤ 1048576 * 1048576 := Int.mul_le_mul (by omega) (by omega) (by omega) (by omega)
  have m3 : 0 ≤ r * p := Int.mul_nonneg (by omega) (by omega)
  have m4 : r * p ≤ 1048576 * 1048576 := Int.mul_le_mul (by omega) (by omega) (by omega) (by omega)
  go_enter Try.func6, Try.ntmps6
  go_wp2_with fail
  refine (fvalid_ok q p _ ha).mono ?_
  rintro e w1 ⟨rfl, hb1⟩
  obtain ⟨hc1, hf1⟩ := bcell hb1
  have hz1 := hb1.size
  simp at hz1
  go_wp2_with fail
  refine (fvalid_ok r s _ hb).mono ?_
  rintro e w2 ⟨rfl, hb2⟩
  obtain ⟨hc2, hf2⟩ := bcell hb2
  have kq : w2.cell? ⟨w.heap.size, 0, none⟩ = some (.int .i64 q) := by rw [hc2 _ _ (by omega), hc1 _ _ (by simp; omega)]; simp
  have kp : w2.cell? ⟨w.heap.size, 1, none⟩ = some (.int .i64 p) := by rw [hc2 _ _ (by omega), hc1 _ _ (by simp; omega)]; simp
  have kr : w2.cell? ⟨w.heap.size + 1, 0, none⟩ = some (.int .i64 r) := by rw [hc2 _ _ (by omega), hc1 _ _ (by simp)]; simp
  have ks : w2.cell? ⟨w.heap.size + 1, 1, none⟩ = some (.int .i64 s) := by rw [hc2 _ _ (by omega), hc1 _ _ (by simp)]; simp
  have HB : Below w.heap.size w w2 := (((Below.refl _ w).alloc (Nat.le_refl _) _).alloc (by simp) _).trans (hb1.mono (by simp; omega)) |>.trans (hb2.mono (by omega))
  clear hc1 hf1 hc2 hf2
  have e1 : IntKind.i64.wrap (q * s) = q * s := IntWalk.i64_in _ (by omega)
  have e2 : IntKind.i64.wrap (r * p) = r * p := IntWalk.i64_in _ (by omega)
  go_wp2_with fail
  go_quiet (fail)
  clear e1 e2
  go_wp2_with fail
  · have h1 : q * s < r * p := by assumption
    go_ret2
    exact ⟨by simp [sign3, h1], below_drewN' HB _⟩
  · have h1 : r * p ≤ q * s := by assumption
    have h2 : r * p < q * s := by assumption
    go_ret2
    exact ⟨by simp [sign3, Int.not_lt.2 h1, h2], below_drewN' HB _⟩
  · have h1 : r * p ≤ q * s := by assumption
    have h2 : q * s ≤ r * p := by assumption
    go_ret2
    exact ⟨by simp [sign3, Int.not_lt.2 h1, Int.not_lt.2 h2], below_drewN' HB _⟩

theorem compare_bad (q p r s : Int) (w : World) (h : ¬ (Vld q p ∧ Vld r s)) :
    Calls Try.prog 6 #[.agg #[.int .i64 q, .int .i64 p], .agg #[.int .i64 r, .int .i64 s]] w fun e w' => e = .returned (.tuple #[.int .i64 0, .iface 47 (.int .i64 2)]) ∧ Below w.heap.size w w' := by
  by_cases ha : Vld q p
  · have hb : ¬ Vld r s := fun k => h ⟨ha, k⟩
    clear h
    go_enter Try.func6, Try.ntmps6
    go_wp2_with fail
    refine (fvalid_ok q p _ ha).mono ?_
    rintro e w1 ⟨rfl, hb1⟩
    obtain ⟨hc1, hf1⟩ := bcell hb1
    have hz1 := hb1.size
    simp at hz1
    go_wp2_with fail
    refine (fvalid_bad r s _ hb).mono ?_
    rintro e w2 ⟨rfl, hb2⟩
    have HB : Below w.heap.size w w2 := (((Below.refl _ w).alloc (Nat.le_refl _) _).alloc (by simp) _).trans (hb1.mono (by simp; omega)) |>.trans (hb2.mono (by omega))
    clear hc1 hf1
    go_wp2
    go_ret2
    exact ⟨rfl, HB⟩
  · clear h
    go_enter Try.func6, Try.ntmps6
    go_wp2_with fail
    refine (fvalid_bad q p _ ha).mono ?_
    rintro e w1 ⟨rfl, hb1⟩
    have HB : Below w.heap.size w w1 := (((Below.refl _ w).alloc (Nat.le_refl _) _).alloc (by simp) _).trans (hb1.mono (by simp; omega))
    go_wp2
    go_ret2
    exact ⟨rfl, HB⟩
end Go.Proofs.Ytggcahcdhjnemaa
