/- fixed.Sum, by contract. -/
import Derived.Test.YtggcahcdhjnemaaDoorSums1
set_option linter.unusedVariables false
set_option linter.unusedSimpArgs false
namespace Go.Proofs.YtggcahcdhjnemaaDoor
open Go.RowKit

set_option maxHeartbeats 2000000 in
theorem sum_neg (a : Option Addr) (zs : List Int) (cap : Nat) (w : World) (R : IntRow w a zs) (hm : zs.length ≤ maxLen) (h : hasNeg zs) :
    Calls Tryd.prog 42 #[.slice a zs.length cap] w fun e w' => e = .returned (.tuple #[.int .i64 0, .iface 83 (.int .i64 1)]) ∧ w = w' := by
  rcases R with rfl | ⟨b, o, rfl, hc⟩
  · obtain ⟨j, hj, _⟩ := h; simp at hj
  · unfold maxLen at hm
    obtain ⟨len, hlen⟩ : ∃ len, len = zs.length := ⟨_, rfl⟩
    rw [← hlen] at hm hc ⊢
    have HL := Lib.hid hlen
    clear hlen
    have HC := Lib.hid hc
    clear hc
    have HN := Lib.hid h
    clear h
    go_enter Tryd.func42, Tryd.ntmps42
    go_wp2
    go_loop [11] (fun i => ∃ k : Nat, k ≤ len ∧ i = .int .i64 k ∧ Hid (∀ j, j < k → 0 ≤ zs.getD j 0)) (fun i => len - (intOf i).toNat)
    case atStart => exact ⟨0, Nat.zero_le _, rfl, Lib.hid (fun j hj => by omega)⟩
    case round =>
      obtain ⟨k, hk, rfl, hp⟩ := hrel
      by_cases hlt : k < len
      · obtain ⟨x, hx⟩ : ∃ x, x = zs.getD k 0 := ⟨_, rfl⟩
        have hcell := HC.out k hlt
        rw [← hx] at hcell
        have HX := Lib.hid hx
        clear hx
        by_cases hneg : x < 0
        · go_wp2
          go_ret2
          exact ⟨rfl, rfl⟩
        · go_wp2
          go_round
          case rel => exact ⟨k + 1, by omega, by go_num, Lib.hid (fun j hj => by
            by_cases e : j = k
            · subst e; rw [← HX.out]; omega
            · exact hp.out j (by omega))⟩
          case measure => simp [intOf]; omega
      · exfalso
        obtain ⟨j, hj, hn⟩ := HN.out
        have := hp.out j (by have := HL.out; omega)
        omega

theorem sum_empty (a : Option Addr) (cap : Nat) (w : World) :
    Calls Tryd.prog 42 #[.slice a 0 cap] w fun e w' => e = .returned (.tuple #[.int .i64 0, .nilIface]) ∧ w = w' := by
  go_enter Tryd.func42, Tryd.ntmps42
  go_wp2
  refine wp_loop_rounds 1 ?_
  rw [rounds_succ]
  go_wp2
  refine wp_loop_rounds 1 ?_
  rw [rounds_succ]
  go_wp2
  go_ret2
  exact ⟨rfl, rfl⟩

set_option maxHeartbeats 2000000 in
theorem sum_ok (a : Option Addr) (zs : List Int) (cap : Nat) (w : World) (R : IntRow w a zs) (hm : zs.length ≤ maxLen) (h : ¬ hasNeg zs) (ht : sumTo zs zs.length ≤ 9223372036854775807) :
    Calls Tryd.prog 42 #[.slice a zs.length cap] w fun e w' => e = .returned (.tuple #[.int .i64 (sumTo zs zs.length), .nilIface]) ∧ w = w' := by
  rcases R with rfl | ⟨b, o, rfl, hc⟩
  · exact sum_empty a cap w
  · have hall := not_hasNeg h
    clear h
    unfold maxLen at hm
    obtain ⟨len, hlen⟩ : ∃ len, len = zs.length := ⟨_, rfl⟩
    have hmono : ∀ k, k < len → 0 ≤ sumTo zs k ∧ sumTo zs (k + 1) ≤ 9223372036854775807 := fun k hk =>
      ⟨sumTo_nonneg hall k (by omega), Int.le_trans (sumTo_mono hall (k + 1) zs.length (by omega) (Nat.le_refl _)) ht⟩
    rw [← hlen] at hm hc hall ⊢
    clear hlen ht
    have HC := Lib.hid hc
    clear hc
    have HA := Lib.hid hall
    clear hall
    have HM := Lib.hid hmono
    clear hmono
    go_enter Tryd.func42, Tryd.ntmps42
    go_wp2
    go_loop [11] (fun i => ∃ k : Nat, k ≤ len ∧ i = .int .i64 k) (fun i => len - (intOf i).toNat)
    case atStart => exact ⟨0, Nat.zero_le _, rfl⟩
    case round =>
      obtain ⟨k, hk, rfl⟩ := hrel
      by_cases hlt : k < len
      · obtain ⟨x, hx⟩ : ∃ x, x = zs.getD k 0 := ⟨_, rfl⟩
        have hcell := HC.out k hlt
        have hpos := HA.out k hlt
        rw [← hx] at hcell hpos
        clear hx
        go_wp2
        go_round
        case rel => exact ⟨k + 1, by omega, by go_num⟩
        case measure => simp [intOf]; omega
      · go_wp2
        go_loop [6, 21] (fun s i => ∃ k : Nat, k ≤ len ∧ i = .int .i64 k ∧ s = .int .i64 (sumTo zs k)) (fun _ i => len - (intOf i).toNat)
        case atStart => exact ⟨0, Nat.zero_le _, rfl, rfl⟩
        case round =>
          obtain ⟨m, hmm, rfl, rfl⟩ := hrel
          by_cases hlm : m < len
          · obtain ⟨x, hx⟩ : ∃ x, x = zs.getD m 0 := ⟨_, rfl⟩
            obtain ⟨s, hs⟩ : ∃ s, s = sumTo zs m := ⟨_, rfl⟩
            have hcell := HC.out m hlm
            have hpos := HA.out m hlm
            have hb := HM.out m hlm
            have hsucc : sumTo zs (m + 1) = s + x := by rw [hs, hx]; rfl
            rw [hsucc] at hb
            rw [← hx] at hcell hpos
            rw [← hs] at hb
            obtain ⟨hb1, hb2⟩ := hb
            have HS := Lib.hid hsucc
            rw [← hs]
            clear hx hs hsucc
            have hd : decide (9223372036854775807 - s < x) = false := by simp; omega
            go_wp2
            go_round
            case rel => exact ⟨m + 1, by omega, by go_num, by rw [HS.out]⟩
            case measure => simp [intOf]; omega
          · have e : m = len := by omega
            subst e
            go_wp2
            go_ret2
            exact ⟨rfl, rfl⟩

end Go.Proofs.YtggcahcdhjnemaaDoor
