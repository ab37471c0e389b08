/- nearest: the units of a part's digits, by contract. -/
import Derived.Test.YtggcahcdhjnemaaDoorTxPlain
import Derived.Test.YtggcahcdhjnemaaDoorBase
import Derived.Lib.Hide
set_option linter.unusedVariables false
set_option linter.unusedSimpArgs false
namespace Go.Proofs.YtggcahcdhjnemaaDoor
open Go.RowKit
set_option maxRecDepth 100000

theorem sat {L : List UInt8} {s : ByteArray} (hs : s = ⟨L.toArray⟩) {j : Nat} {c : UInt8} (h : L[j]? = some c) (hj : j < s.size) : s[j]'hj = c := by
  subst hs
  obtain ⟨h1, h2⟩ := List.getElem?_eq_some_iff.1 h
  rw [← h2]; rfl

set_option maxHeartbeats 400000 in
theorem nearest_ok (r : Nat) (s : ByteArray) (w : World) (h0 : 0 < r) (hr : r < 1048576) (hs : s = ⟨(fracD 20 r).toArray⟩) :
    Calls Tryd.prog 63 #[.string s] w fun e w' => e = .returned (.int .i64 (r : Int)) ∧ w = w' := by
  have hlen : s.size = (fracD 20 r).length := by subst hs; rfl
  have hl20 : (fracD 20 r).length ≤ 20 := fracD_len 20 r
  obtain ⟨m, hm⟩ : ∃ m, m = (fracD 20 r).length := ⟨_, rfl⟩
  rw [← hm] at hlen hl20
  have HS := Lib.hid hs
  have HM := Lib.hid hm
  clear hs hm
  go_enter Tryd.func63, Tryd.ntmps63
  go_wp2_with fail
  go_loop [3, 4, 5] (fun vn vs vi => ∃ (j n p : Nat), j ≤ m ∧ j ≤ 9 ∧ vi = .int .i64 j ∧ vn = .int .i64 n ∧ vs = .int .i64 p ∧ n ≤ 1000000000 ∧ p ≤ 1000000000 ∧ 1 ≤ p ∧ Hid (n = numD j r ∧ p = 10 ^ j)) (fun _ _ i => 20 - (intOf i).toNat)
  case atStart => exact ⟨0, 0, 1, Nat.zero_le _, by omega, rfl, rfl, rfl, by omega, by omega, by omega, Lib.hid ⟨by simp [numD]; omega, rfl⟩⟩
  case round =>
    obtain ⟨j, n, p, h1, h2, rfl, rfl, rfl, hn, hp, hp1, HJ⟩ := hrel
    by_cases hj : j < m ∧ j < 9
    · obtain ⟨hj1, hj2⟩ := hj
      have hjs : j < s.size := by omega
      obtain ⟨y, hy⟩ : ∃ y, y = remD j r * 10 / 1048576 := ⟨_, rfl⟩
      have hrem := remD_lt j r hr
      have hy9 : y ≤ 9 := by omega
      obtain ⟨hr0, hc⟩ := fracD_at 20 j r (by rw [← HM.out]; exact hj1)
      have es : ((s[j]'hjs).toNat : Int) = 48 + (y : Int) := by
        rw [sat HS.out hc hjs, ← hy, UInt8.toNat_ofNat']; omega
      obtain ⟨hN, hP⟩ := HJ.out
      have hstep := numD_step j r hr
      have hN2 : n * 1048576 ≤ r * 10 ^ j := by rw [hN, numD]; exact Nat.div_mul_le_self _ _
      have hpw : 10 ^ j ≤ 100000000 := Nat.le_trans (Nat.pow_le_pow_right (by decide) (show j ≤ 8 by omega)) (by decide)
      have hn8 : n ≤ 99999999 := by
        rw [← hP] at hN2 hpw
        have : r * p ≤ 1048575 * p := Nat.mul_le_mul_right _ (by omega)
        omega
      have hp8 : p ≤ 100000000 := by omega
      have HJ2 : Hid (10 * n + y = numD (j + 1) r ∧ 10 * p = 10 ^ (j + 1)) := Lib.hid ⟨by rw [hstep, hN, hy], by rw [hP, Nat.pow_succ, Nat.mul_comm]⟩
      clear hy hrem hr0 hc hN hP hstep hN2 hpw HJ
      have t1 : decide ((j : Int) < (m : Int)) = true := by simp; omega
      have t2 : decide ((j : Int) < 9) = true := by simp; omega
      go_wp2_with fail
      go_round
      case rel => exact ⟨j + 1, 10 * n + y, 10 * p, by omega, by omega, by go_num, by go_num, by go_num, by omega, by omega, by omega, HJ2⟩
      case measure => simp [intOf]; omega
    · have he : (2 * n * 1048576 + p) / (2 * p) = r := by
        obtain ⟨hN, hP⟩ := HJ.out
        rw [hN, hP]
        refine near_eq j r hr ?_
        by_cases h9 : j = 9
        · exact Or.inl h9
        · refine Or.inr ⟨h2, ?_⟩
          have : j = (fracD 20 r).length := by rw [← HM.out]; omega
          rw [this]
          exact fracD_end 20 r (ten_start r) hr
      have he2 : (2 * (n : Int) * 1048576 + p) / (2 * p) = (r : Int) := by rw [← he]; simp
      have HE := Lib.hid he2
      have tz : ((2 * (p : Int)) == 0) = false := by simp; omega
      clear he he2
      by_cases hj1 : j < m
      · have t1 : decide ((j : Int) < (m : Int)) = true := by simp; omega
        have t2 : decide ((j : Int) < 9) = false := by simp; omega
        go_wp2
        go_ret
        exact ⟨ret_int HE.out, rfl⟩
      · have t1 : decide ((j : Int) < (m : Int)) = false := by simp; omega
        go_wp2
        go_ret
        exact ⟨ret_int HE.out, rfl⟩
end Go.Proofs.YtggcahcdhjnemaaDoor
