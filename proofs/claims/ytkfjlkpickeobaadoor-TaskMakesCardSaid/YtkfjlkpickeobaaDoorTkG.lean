/- titheref02.Digits, by contract. -/
import Derived.Test.YtkfjlkpickeobaaDoorTmD
import Derived.Lib.ItoaLen
import Derived.BigQuiet
import Derived.IntWalk
import Derived.Deep.QuietTactic
set_option linter.unusedVariables false
set_option linter.unusedSimpArgs false
namespace Go.Proofs.YtkfjlkpickeobaaDoor
open Go.RowKit
set_option maxRecDepth 100000

/-- What Digits leaves: the decimal numeral; draws alone. -/
def DigPost (u : Nat) (w : World) (e : Ending) (w' : World) : Prop := e = .returned (.string ⟨(Lib.decDigits u).toArray⟩) ∧ ∃ n, w' = w.drewN n
theorem digits_small (u : Nat) (h : u < 10) (w : World) : Calls Tryd.prog 52 #[.int .i64 (u : Int)] w (DigPost u w) := by
  unfold DigPost
  rw [Lib.decDigits_one h]
  obtain rfl | rfl | rfl | rfl | rfl | rfl | rfl | rfl | rfl | rfl : u = 0 ∨ u = 1 ∨ u = 2 ∨ u = 3 ∨ u = 4 ∨ u = 5 ∨ u = 6 ∨ u = 7 ∨ u = 8 ∨ u = 9 := by omega
  all_goals (
    go_enter Tryd.func52, Tryd.ntmps52
    go_wp2
    go_ret
    exact ⟨rfl, 0, rfl⟩)
set_option maxHeartbeats 1000000 in
/-- A text and a digit. -/
theorem digits_step (u q r : Nat) (hu : u = 10 * q + r) (hr : r < 10) (hq : 0 < q) (hb : u ≤ 4611686018427387904) (d : ByteArray) (hd : d.size ≤ 100) (w : World)
    (H : Hid (∀ n, Calls Tryd.prog 52 #[.int .i64 (q : Int)] (w.drewN n) fun e w' => e = .returned (.string d) ∧ ∃ m, w' = w.drewN m)) :
    Calls Tryd.prog 52 #[.int .i64 (u : Int)] w fun e w' => e = .returned (.string (d ++ ⟨#[UInt8.ofNat (48 + r)]⟩)) ∧ ∃ n, w' = w.drewN n := by
  have e1 : (u : Int).tdiv 10 = (q : Int) := by rw [Int.tdiv_eq_ediv_of_nonneg (by omega)]; omega
  have t0 : decide ((u : Int) < 10) = false := decide_eq_false (by omega)
  have v1 : wrap64 (q : Int) = (q : Int) := by unfold wrap64; omega
  have v2 : IntKind.i64.wrap (q : Int) = (q : Int) := IntWalk.i64_in _ (by omega)
  have e2 : (u : Int).tmod 10 = (r : Int) := by rw [Int.tmod_eq_emod_of_nonneg (by omega)]; omega
  have h1 : 0 ≤ (u : Int) := by omega
  obtain ⟨x, hx⟩ : ∃ x : Int, x = u := ⟨_, rfl⟩
  rw [← hx] at e1 e2 t0 h1 ⊢
  have hxb : x ≤ 4611686018427387904 := by omega
  clear hu hb hx
  obtain rfl | rfl | rfl | rfl | rfl | rfl | rfl | rfl | rfl | rfl : r = 0 ∨ r = 1 ∨ r = 2 ∨ r = 3 ∨ r = 4 ∨ r = 5 ∨ r = 6 ∨ r = 7 ∨ r = 8 ∨ r = 9 := by omega
  all_goals (
    go_enter Tryd.func52, Tryd.ntmps52
    go_wp2_with fail
    go_quiet (first | (go_at_call 52; (try rw [v1]); (try rw [v2]); with_reducible exact H.out _))
    go_wp2
    go_ret
    exact ⟨rfl, _, rfl⟩)
theorem digits_c : ∀ (u : Nat), u ≤ 4611686018427387904 → ∀ w : World, Calls Tryd.prog 52 #[.int .i64 (u : Int)] w (DigPost u w) := by
  intro u
  induction u using Nat.strongRecOn with
  | ind u ih =>
    intro hu w
    by_cases h : u < 10
    · exact digits_small u h w
    · have hlen : (Lib.decDigits (u / 10)).length ≤ 21 := by
        have := Lib.itoa_length_le ((u / 10 : Nat) : Int) (by omega) (by omega)
        rwa [Lib.itoa_nonneg] at this
      have := digits_step u (u / 10) (u % 10) (by omega) (by omega) (by omega) hu ⟨(Lib.decDigits (u / 10)).toArray⟩ (by simp [ByteArray.size]; omega) w (Lib.hid fun n => (ih (u / 10) (by omega) (by omega) (w.drewN n)).mono (by
        rintro e w' ⟨rfl, m, rfl⟩
        exact ⟨rfl, n + m, by rw [World.drewN_drewN]⟩))
      refine this.mono ?_
      rintro e w' ⟨rfl, n, rfl⟩
      refine ⟨?_, n, rfl⟩
      have e : Lib.decDigits u = Lib.decDigits (u / 10) ++ [UInt8.ofNat (48 + u % 10)] := by
        conv => lhs; rw [Lib.decDigits, dif_neg h]
      rw [e]
      congr 2

end Go.Proofs.YtkfjlkpickeobaaDoor
