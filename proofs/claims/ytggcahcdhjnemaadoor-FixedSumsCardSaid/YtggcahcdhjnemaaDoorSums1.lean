/- Rows of ints that came in; fixed.Sum and the reference's below and Sum, by contract. -/
import Derived.Test.YtggcahcdhjnemaaDoorBase
set_option linter.unusedVariables false
set_option linter.unusedSimpArgs false
namespace Go.Proofs.YtggcahcdhjnemaaDoor
open Go.RowKit

/-- A slice over these ints. -/
def IntRow (w : World) (a : Option Addr) (zs : List Int) : Prop := zs = [] ∨ ∃ b o, a = some ⟨b, o, none⟩ ∧ ∀ i, i < zs.length → w.cell? ⟨b, o + i, none⟩ = some (.int .i64 (zs.getD i 0))

theorem IntRow.below {w w1 : World} {a : Option Addr} {zs : List Int} (h : IntRow w a zs) (hb : Below w.heap.size w w1) : IntRow w1 a zs := by
  rcases h with h | ⟨b, o, e, h⟩
  · exact Or.inl h
  · exact Or.inr ⟨b, o, e, fun i hi => keep hb (h i hi)⟩

def sumTo (zs : List Int) : Nat → Int
  | 0 => 0
  | k + 1 => sumTo zs k + zs.getD k 0

theorem sumTo_nonneg {zs : List Int} (h : ∀ j, j < zs.length → 0 ≤ zs.getD j 0) : ∀ k, k ≤ zs.length → 0 ≤ sumTo zs k
  | 0, _ => by simp [sumTo]
  | k + 1, hk => by have a := sumTo_nonneg h k (by omega); have b := h k (by omega); simp only [sumTo]; omega

theorem sumTo_mono {zs : List Int} (h : ∀ j, j < zs.length → 0 ≤ zs.getD j 0) (k : Nat) : ∀ m, k ≤ m → m ≤ zs.length → sumTo zs k ≤ sumTo zs m
  | 0, hk, _ => by have : k = 0 := by omega
                   subst this; exact Int.le_refl _
  | m + 1, hk, hm => by
    by_cases e : k = m + 1
    · subst e; exact Int.le_refl _
    · have a := sumTo_mono h k m (by omega) (by omega); have b := h m (by omega); simp only [sumTo]; omega

/-- Is one below 0? -/
def hasNeg (zs : List Int) : Prop := ∃ j, j < zs.length ∧ zs.getD j 0 < 0
theorem not_hasNeg {zs : List Int} (h : ¬ hasNeg zs) : ∀ j, j < zs.length → 0 ≤ zs.getD j 0 := fun j hj => Int.not_lt.1 fun k => h ⟨j, hj, k⟩

set_option maxHeartbeats 1000000 in
theorem rbelow_yes (a : Option Addr) (zs : List Int) (cap : Nat) (w : World) (R : IntRow w a zs) (hm : zs.length ≤ maxLen) (h : hasNeg zs) :
    Calls Tryd.prog 58 #[.slice a zs.length cap] w fun e w' => e = .returned (.bool true) ∧ w = w' := by
  rcases R with rfl | ⟨b, o, rfl, hc⟩
  · obtain ⟨j, hj, _⟩ := h; simp at hj
  · unfold maxLen at hm
    obtain ⟨len, hlen⟩ : ∃ len, len = zs.length := ⟨_, rfl⟩
    rw [← hlen] at hm hc ⊢
    have HL := Lib.hid hlen
    clear hlen
    have HC := Lib.hid hc
    clear hc
    have HN := Lib.hid h
    clear h
    go_enter Tryd.func58, Tryd.ntmps58
    go_wp2
    go_loop [3] (fun i => ∃ k : Nat, k ≤ len ∧ i = .int .i64 k ∧ Hid (∀ j, j < k → 0 ≤ zs.getD j 0)) (fun i => len - (intOf i).toNat)
    case atStart => exact ⟨0, Nat.zero_le _, rfl, Lib.hid (fun j hj => by omega)⟩
    case round =>
      obtain ⟨k, hk, rfl, hp⟩ := hrel
      by_cases hlt : k < len
      · obtain ⟨x, hx⟩ : ∃ x, x = zs.getD k 0 := ⟨_, rfl⟩
        have hcell := HC.out k hlt
        rw [← hx] at hcell
        have HX := Lib.hid hx
        clear hx
        by_cases hneg : x < 0
        · go_wp2
          go_ret
          exact ⟨rfl, rfl⟩
        · go_wp2
          go_round
          case rel => exact ⟨k + 1, by omega, by go_num, Lib.hid (fun j hj => by
            by_cases e : j = k
            · subst e; rw [← HX.out]; omega
            · exact hp.out j (by omega))⟩
          case measure => simp [intOf]; omega
      · exfalso
        obtain ⟨j, hj, hn⟩ := HN.out
        have := hp.out j (by have := HL.out; omega)
        omega

set_option maxHeartbeats 1000000 in
theorem rbelow_no (a : Option Addr) (zs : List Int) (cap : Nat) (w : World) (R : IntRow w a zs) (hm : zs.length ≤ maxLen) (h : ¬ hasNeg zs) :
    Calls Tryd.prog 58 #[.slice a zs.length cap] w fun e w' => e = .returned (.bool false) ∧ w = w' := by
  have hall := not_hasNeg h
  clear h
  unfold maxLen at hm
  obtain ⟨len, hlen⟩ : ∃ len, len = zs.length := ⟨_, rfl⟩
  rcases R with rfl | ⟨b, o, rfl, hc⟩
  · subst hlen
    clear hall
    go_enter Tryd.func58, Tryd.ntmps58
    go_wp2
    refine wp_loop_rounds 1 ?_
    rw [rounds_succ]
    go_wp2
    go_ret
    exact ⟨rfl, rfl⟩
  · rw [← hlen] at hm hc hall ⊢
    have HL := Lib.hid hlen
    clear hlen
    have HC := Lib.hid hc
    clear hc
    have HA := Lib.hid hall
    clear hall
    go_enter Tryd.func58, Tryd.ntmps58
    go_wp2
    go_loop [3] (fun i => ∃ k : Nat, k ≤ len ∧ i = .int .i64 k) (fun i => len - (intOf i).toNat)
    case atStart => exact ⟨0, Nat.zero_le _, rfl⟩
    case round =>
      obtain ⟨k, hk, rfl⟩ := hrel
      by_cases hlt : k < len
      · obtain ⟨x, hx⟩ : ∃ x, x = zs.getD k 0 := ⟨_, rfl⟩
        have hcell := HC.out k hlt
        have hpos := HA.out k hlt
        rw [← hx] at hcell hpos
        clear hx
        go_wp2
        go_round
        case rel => exact ⟨k + 1, by omega, by go_num⟩
        case measure => simp [intOf]; omega
      · go_wp2
        go_ret
        exact ⟨rfl, rfl⟩

end Go.Proofs.YtggcahcdhjnemaaDoor
