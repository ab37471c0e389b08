/- The law SlotsTwins, by contract. Printed by gen_sl_twins.py (this repo's). -/
import Derived.Test.YtgjlkplieoajlaaDoorSt8
import Derived.Test.YtgjlkplieoajlaaDoorSt9
set_option linter.unusedVariables false
set_option linter.unusedSimpArgs false
namespace Go.Proofs.YtgjlkplieoajlaaDoor
open Go.RowKit
open Go.Proofs.YtgjlkplieoajlaaDoorW.PrintWords (Kd Drawn0 Kept rd rdOf)
open Go.Proofs.YtgjlkplieoajlaaDoor.PSlotsTwins
set_option maxRecDepth 100000

set_option maxHeartbeats 30000000 in
theorem twins_ok (many : Int) (al : Option Addr) (len lcap : Nat) (am : Option Addr) (mlen mcap : Nat) (w : World) (hm : len ≤ maxLen) (hc : OpsAt w al len) (hm2 : mlen ≤ maxLen) (hc2 : OpsAt w am mlen) (hL : Laid w) :
    Calls Tryd.prog 7 #[.int .i64 many, .slice al len lcap, .slice am mlen mcap] w fun e w' => e = .returned (.bool true) ∧ Below w.heap.size w w' := by
  by_cases hv : 1 ≤ (2 : Int) ∧ (2 : Int) ≤ 3 ∧ 1 ≤ many ∧ many ≤ 4096
  · obtain ⟨-, -, n0, n1⟩ := hv
    obtain ⟨n, rfl⟩ : ∃ n : Nat, many = n := ⟨many.toNat, by omega⟩
    rcases Nat.lt_or_ge 100 len with h | h
    · exact twins_long n n0 n1 al len lcap am mlen mcap w hm hc hm2 hc2 hL h
    · exact twins_short n n0 n1 al len lcap am mlen mcap w hm hc hm2 hc2 hL h
  · have hv' : ¬ (1 ≤ (2 : Int) ∧ (2 : Int) ≤ 3 ∧ 1 ≤ many ∧ many ≤ 4096) := hv
    go_enter Tryd.func7, Tryd.ntmps7
    go_wp2_with fail
    have HL := Lib.hid hL
    clear hL hc hc2
    refine (snew_bad 2 many w hv').mono ?_
    rintro e w1 ⟨rfl, m, hw⟩
    have HB := Lib.hid (show Below w.heap.size w w1 by rw [hw]; exact below_drewN' (Below.refl _ w) m)
    have HL1 := Lib.hid (HL.out.below HB.out)
    clear hw HL
    go_wp2_with fail
    refine (rnew_bad_c 2 many w1 hv').mono ?_
    rintro e w2 ⟨B1, d1, B2, d2, B3, d3, rfl, hb2⟩
    have HB2 := Lib.hid (below_call HB.out (Nat.le_refl _) hb2)
    have HL2 := Lib.hid (HL1.out.below hb2)
    clear hb2 HB HL1
    go_wp2_with fail
    have HBx := Lib.hid ((Below.refl w2.heap.size w2).alloc (Nat.le_refl _) (.cells #[.int .i64 0, .slice B1 0 d1, .slice B2 0 d2, .slice B3 0 d3] 30))
    generalize (w2.alloc (.cells #[.int .i64 0, .slice B1 0 d1, .slice B2 0 d2, .slice B3 0 d3] 30)) = w3 at HBx ⊢
    generalize w2.heap.size = xb
    refine (num03_err 1 w3 (HL2.out.below HBx.out)).mono ?_
    rintro e w4 ⟨rfl, hb4⟩
    have HB4 := Lib.hid (below_call (below_call HB2.out (Nat.le_refl _) HBx.out) (Nat.le_refl _) hb4)
    clear hb4 HBx
    go_wp2_with fail
    refine (sure03_ok w4).mono ?_
    rintro e w6 ⟨rfl, hb6⟩
    have HB6 := Lib.hid (below_call HB4.out (Nat.le_refl _) hb6)
    clear hb6
    go_wp2
    go_ret
    exact ⟨rfl, HB6.out⟩

end Go.Proofs.YtgjlkplieoajlaaDoor
