/- The walk of FixedSums: the call returns true. -/
import Derived.Test.YtggcahcdhjnemaaDoorSums4
import Derived.Test.YtggcahcdhjnemaaDoorSure01
import Derived.Test.YtggcahcdhjnemaaDoorNum01
set_option linter.unusedVariables false
set_option linter.unusedSimpArgs false
namespace Go.Proofs.YtggcahcdhjnemaaDoor
open Go.RowKit

set_option maxHeartbeats 1000000 in
theorem sums_neg1 (a : Option Addr) (zs : List Int) (cap : Nat) (more : Int) (w : World) (hL : Laid w) (R : IntRow w a zs) (hm : zs.length ≤ maxLen) (h : hasNeg zs) (h0 : more < 0) :
    Calls Tryd.prog 10 #[.slice a zs.length cap, .int .i64 more] w fun e w' => e = .returned (.bool true) ∧ Below w.heap.size w w' := by
  have H1 := Lib.hid (sum_neg a zs cap w R hm h)
  have H2 := Lib.hid (rsum_neg a zs cap w R hm h)
  have H3 := Lib.hid (fits_more a zs cap more w h0)
  have H4 := Lib.hid (rfits_neg a zs cap more w R hm h)
  clear R hm
  have HB : Below w.heap.size w w := Below.refl _ w
  replace hL : Laid w := hL
  go_enter Tryd.func10, Tryd.ntmps10
  go_wp2_with fail
  refine (H1.out).mono ?_
  rintro e w' ⟨rfl, rfl⟩
  go_wp2_with fail
  refine (H2.out).mono ?_
  rintro e w' ⟨rfl, rfl⟩
  go_wp2_with fail
  refine (H3.out).mono ?_
  rintro e w' ⟨rfl, rfl⟩
  go_wp2_with fail
  refine (H4.out).mono ?_
  rintro e w' ⟨rfl, rfl⟩
  clear H1 H2 H3 H4
  go_wp2_with fail
  refine (num01_err 1 _ hL).mono ?_
  rintro e w1 ⟨rfl, hb1⟩
  replace hL := hL.below hb1
  replace HB := below_call HB (Nat.le_refl _) hb1
  clear hb1
  go_wp2_with fail
  refine (num01_err 1 _ hL).mono ?_
  rintro e w2 ⟨rfl, hb2⟩
  replace hL := hL.below hb2
  replace HB := below_call HB (Nat.le_refl _) hb2
  clear hb2
  go_wp2_with fail
  refine (sure01 _).mono ?_
  rintro e w3 ⟨rfl, hb3⟩
  replace hL := hL.below hb3
  replace HB := below_call HB (Nat.le_refl _) hb3
  clear hb3
  go_wp2
  go_ret
  exact ⟨rfl, HB⟩

set_option maxHeartbeats 1000000 in
theorem sums_neg2 (a : Option Addr) (zs : List Int) (cap : Nat) (more : Int) (w : World) (hL : Laid w) (R : IntRow w a zs) (hm : zs.length ≤ maxLen) (h : hasNeg zs) (h0 : 0 ≤ more) :
    Calls Tryd.prog 10 #[.slice a zs.length cap, .int .i64 more] w fun e w' => e = .returned (.bool true) ∧ Below w.heap.size w w' := by
  have H1 := Lib.hid (sum_neg a zs cap w R hm h)
  have H2 := Lib.hid (rsum_neg a zs cap w R hm h)
  have H3 := Lib.hid (fits_neg a zs cap more w R hm h h0)
  have H4 := Lib.hid (rfits_neg a zs cap more w R hm h)
  clear R hm
  have HB : Below w.heap.size w w := Below.refl _ w
  replace hL : Laid w := hL
  go_enter Tryd.func10, Tryd.ntmps10
  go_wp2_with fail
  refine (H1.out).mono ?_
  rintro e w' ⟨rfl, rfl⟩
  go_wp2_with fail
  refine (H2.out).mono ?_
  rintro e w' ⟨rfl, rfl⟩
  go_wp2_with fail
  refine (H3.out).mono ?_
  rintro e w' ⟨rfl, rfl⟩
  go_wp2_with fail
  refine (H4.out).mono ?_
  rintro e w' ⟨rfl, rfl⟩
  clear H1 H2 H3 H4
  go_wp2_with fail
  refine (num01_err 1 _ hL).mono ?_
  rintro e w1 ⟨rfl, hb1⟩
  replace hL := hL.below hb1
  replace HB := below_call HB (Nat.le_refl _) hb1
  clear hb1
  go_wp2_with fail
  refine (num01_err 1 _ hL).mono ?_
  rintro e w2 ⟨rfl, hb2⟩
  replace hL := hL.below hb2
  replace HB := below_call HB (Nat.le_refl _) hb2
  clear hb2
  go_wp2_with fail
  refine (sure01 _).mono ?_
  rintro e w3 ⟨rfl, hb3⟩
  replace hL := hL.below hb3
  replace HB := below_call HB (Nat.le_refl _) hb3
  clear hb3
  go_wp2
  go_ret
  exact ⟨rfl, HB⟩

set_option maxHeartbeats 1000000 in
theorem sums_ov1 (a : Option Addr) (zs : List Int) (cap : Nat) (more : Int) (w : World) (hL : Laid w) (R : IntRow w a zs) (hm : zs.length ≤ maxLen) (h : ¬ hasNeg zs) (ht : 9223372036854775807 < sumTo zs zs.length) (h0 : more < 0) :
    Calls Tryd.prog 10 #[.slice a zs.length cap, .int .i64 more] w fun e w' => e = .returned (.bool true) ∧ Below w.heap.size w w' := by
  have H1 := Lib.hid (sum_over a zs cap w R hm h ht)
  have H2 := Lib.hid (rsum_over a zs cap w R hm h ht)
  have H3 := Lib.hid (fits_more a zs cap more w h0)
  have H4 := Lib.hid (rfits_more a zs cap more w R hm h h0)
  clear R hm
  have HB : Below w.heap.size w w := Below.refl _ w
  replace hL : Laid w := hL
  go_enter Tryd.func10, Tryd.ntmps10
  go_wp2_with fail
  refine (H1.out).mono ?_
  rintro e w' ⟨rfl, rfl⟩
  go_wp2_with fail
  refine (H2.out).mono ?_
  rintro e w' ⟨rfl, rfl⟩
  go_wp2_with fail
  refine (H3.out).mono ?_
  rintro e w' ⟨rfl, rfl⟩
  go_wp2_with fail
  refine (H4.out).mono ?_
  rintro e w' ⟨rfl, rfl⟩
  clear H1 H2 H3 H4
  go_wp2_with fail
  refine (num01_err 10 _ hL).mono ?_
  rintro e w1 ⟨rfl, hb1⟩
  replace hL := hL.below hb1
  replace HB := below_call HB (Nat.le_refl _) hb1
  clear hb1
  go_wp2_with fail
  refine (num01_err 1 _ hL).mono ?_
  rintro e w2 ⟨rfl, hb2⟩
  replace hL := hL.below hb2
  replace HB := below_call HB (Nat.le_refl _) hb2
  clear hb2
  go_wp2_with fail
  refine (sure01 _).mono ?_
  rintro e w3 ⟨rfl, hb3⟩
  replace hL := hL.below hb3
  replace HB := below_call HB (Nat.le_refl _) hb3
  clear hb3
  go_wp2
  go_ret
  exact ⟨rfl, HB⟩

set_option maxHeartbeats 1000000 in
theorem sums_ok1 (a : Option Addr) (zs : List Int) (cap : Nat) (more : Int) (w : World) (hL : Laid w) (R : IntRow w a zs) (hm : zs.length ≤ maxLen) (h : ¬ hasNeg zs) (ht : sumTo zs zs.length ≤ 9223372036854775807) (h0 : more < 0) :
    Calls Tryd.prog 10 #[.slice a zs.length cap, .int .i64 more] w fun e w' => e = .returned (.bool true) ∧ Below w.heap.size w w' := by
  have H1 := Lib.hid (sum_ok a zs cap w R hm h ht)
  have H2 := Lib.hid (rsum_ok a zs cap w R hm h ht)
  have H3 := Lib.hid (fits_more a zs cap more w h0)
  have H4 := Lib.hid (rfits_more a zs cap more w R hm h h0)
  clear R hm
  have HB : Below w.heap.size w w := Below.refl _ w
  replace hL : Laid w := hL
  go_enter Tryd.func10, Tryd.ntmps10
  go_wp2_with fail
  refine (H1.out).mono ?_
  rintro e w' ⟨rfl, rfl⟩
  go_wp2_with fail
  refine (H2.out).mono ?_
  rintro e w' ⟨rfl, rfl⟩
  go_wp2_with fail
  refine (H3.out).mono ?_
  rintro e w' ⟨rfl, rfl⟩
  go_wp2_with fail
  refine (H4.out).mono ?_
  rintro e w' ⟨rfl, rfl⟩
  clear H1 H2 H3 H4
  go_wp2_with fail
  refine (num01_nil _).mono ?_
  rintro e w1 ⟨rfl, hb1⟩
  replace hL := hL.below hb1
  replace HB := below_call HB (Nat.le_refl _) hb1
  clear hb1
  go_wp2_with fail
  refine (num01_err 1 _ hL).mono ?_
  rintro e w2 ⟨rfl, hb2⟩
  replace hL := hL.below hb2
  replace HB := below_call HB (Nat.le_refl _) hb2
  clear hb2
  go_wp2_with fail
  refine (sure01 _).mono ?_
  rintro e w3 ⟨rfl, hb3⟩
  replace hL := hL.below hb3
  replace HB := below_call HB (Nat.le_refl _) hb3
  clear hb3
  go_wp2
  go_ret
  exact ⟨rfl, HB⟩

set_option maxHeartbeats 1000000 in
theorem sums_ov2 (a : Option Addr) (zs : List Int) (cap : Nat) (more : Int) (w : World) (hL : Laid w) (R : IntRow w a zs) (hm : zs.length ≤ maxLen) (h : ¬ hasNeg zs) (ht : 9223372036854775807 < sumTo zs zs.length) (h0 : 0 ≤ more) (h1 : 1048576 < more) :
    Calls Tryd.prog 10 #[.slice a zs.length cap, .int .i64 more] w fun e w' => e = .returned (.bool true) ∧ Below w.heap.size w w' := by
  have H1 := Lib.hid (sum_over a zs cap w R hm h ht)
  have H2 := Lib.hid (rsum_over a zs cap w R hm h ht)
  have H3 := Lib.hid (fits_over a zs cap more w R hm h h0 ht)
  have H4 := Lib.hid (rfits_great a zs cap more w R hm h h1)
  clear R hm
  have HB : Below w.heap.size w w := Below.refl _ w
  replace hL : Laid w := hL
  go_enter Tryd.func10, Tryd.ntmps10
  go_wp2_with fail
  refine (H1.out).mono ?_
  rintro e w' ⟨rfl, rfl⟩
  go_wp2_with fail
  refine (H2.out).mono ?_
  rintro e w' ⟨rfl, rfl⟩
  go_wp2_with fail
  refine (H3.out).mono ?_
  rintro e w' ⟨rfl, rfl⟩
  go_wp2_with fail
  refine (H4.out).mono ?_
  rintro e w' ⟨rfl, rfl⟩
  clear H1 H2 H3 H4
  go_wp2_with fail
  refine (num01_err 10 _ hL).mono ?_
  rintro e w1 ⟨rfl, hb1⟩
  replace hL := hL.below hb1
  replace HB := below_call HB (Nat.le_refl _) hb1
  clear hb1
  go_wp2_with fail
  refine (num01_nil _).mono ?_
  rintro e w2 ⟨rfl, hb2⟩
  replace hL := hL.below hb2
  replace HB := below_call HB (Nat.le_refl _) hb2
  clear hb2
  go_wp2_with fail
  refine (sure01 _).mono ?_
  rintro e w3 ⟨rfl, hb3⟩
  replace hL := hL.below hb3
  replace HB := below_call HB (Nat.le_refl _) hb3
  clear hb3
  go_wp2
  go_ret
  exact ⟨rfl, HB⟩

set_option maxHeartbeats 1000000 in
theorem sums_ok2 (a : Option Addr) (zs : List Int) (cap : Nat) (more : Int) (w : World) (hL : Laid w) (R : IntRow w a zs) (hm : zs.length ≤ maxLen) (h : ¬ hasNeg zs) (ht : sumTo zs zs.length ≤ 9223372036854775807) (h0 : 0 ≤ more) (h1 : 1048576 < more) :
    Calls Tryd.prog 10 #[.slice a zs.length cap, .int .i64 more] w fun e w' => e = .returned (.bool true) ∧ Below w.heap.size w w' := by
  have hd : decide (more + sumTo zs zs.length ≤ 1048576) = false := by have := sumTo_nonneg (not_hasNeg h) zs.length (Nat.le_refl _); simp; omega
  have H1 := Lib.hid (sum_ok a zs cap w R hm h ht)
  have H2 := Lib.hid (rsum_ok a zs cap w R hm h ht)
  have H3 := Lib.hid (hd ▸ fits_sum a zs cap more w R hm h h0 ht)
  have H4 := Lib.hid (rfits_great a zs cap more w R hm h h1)
  clear R hm
  have HB : Below w.heap.size w w := Below.refl _ w
  replace hL : Laid w := hL
  go_enter Tryd.func10, Tryd.ntmps10
  go_wp2_with fail
  refine (H1.out).mono ?_
  rintro e w' ⟨rfl, rfl⟩
  go_wp2_with fail
  refine (H2.out).mono ?_
  rintro e w' ⟨rfl, rfl⟩
  go_wp2_with fail
  refine (H3.out).mono ?_
  rintro e w' ⟨rfl, rfl⟩
  go_wp2_with fail
  refine (H4.out).mono ?_
  rintro e w' ⟨rfl, rfl⟩
  clear H1 H2 H3 H4
  go_wp2_with fail
  refine (num01_nil _).mono ?_
  rintro e w1 ⟨rfl, hb1⟩
  replace hL := hL.below hb1
  replace HB := below_call HB (Nat.le_refl _) hb1
  clear hb1
  go_wp2_with fail
  refine (num01_nil _).mono ?_
  rintro e w2 ⟨rfl, hb2⟩
  replace hL := hL.below hb2
  replace HB := below_call HB (Nat.le_refl _) hb2
  clear hb2
  go_wp2_with fail
  refine (sure01 _).mono ?_
  rintro e w3 ⟨rfl, hb3⟩
  replace hL := hL.below hb3
  replace HB := below_call HB (Nat.le_refl _) hb3
  clear hb3
  go_wp2
  go_ret
  exact ⟨rfl, HB⟩

set_option maxHeartbeats 1000000 in
theorem sums_ov3 (a : Option Addr) (zs : List Int) (cap : Nat) (more : Int) (w : World) (hL : Laid w) (R : IntRow w a zs) (hm : zs.length ≤ maxLen) (h : ¬ hasNeg zs) (ht : 9223372036854775807 < sumTo zs zs.length) (h0 : 0 ≤ more) (h1 : more ≤ 1048576) :
    Calls Tryd.prog 10 #[.slice a zs.length cap, .int .i64 more] w fun e w' => e = .returned (.bool true) ∧ Below w.heap.size w w' := by
  have hd : decide (more + sumTo zs zs.length ≤ 1048576) = false := by have := sumTo_nonneg (not_hasNeg h) zs.length (Nat.le_refl _); simp; omega
  have H1 := Lib.hid (sum_over a zs cap w R hm h ht)
  have H2 := Lib.hid (rsum_over a zs cap w R hm h ht)
  have H3 := Lib.hid (fits_over a zs cap more w R hm h h0 ht)
  have H4 := Lib.hid (hd ▸ rfits_sum a zs cap more w R hm h h0 h1)
  clear R hm
  have HB : Below w.heap.size w w := Below.refl _ w
  replace hL : Laid w := hL
  go_enter Tryd.func10, Tryd.ntmps10
  go_wp2_with fail
  refine (H1.out).mono ?_
  rintro e w' ⟨rfl, rfl⟩
  go_wp2_with fail
  refine (H2.out).mono ?_
  rintro e w' ⟨rfl, rfl⟩
  go_wp2_with fail
  refine (H3.out).mono ?_
  rintro e w' ⟨rfl, rfl⟩
  go_wp2_with fail
  refine (H4.out).mono ?_
  rintro e w' ⟨rfl, rfl⟩
  clear H1 H2 H3 H4
  go_wp2_with fail
  refine (num01_err 10 _ hL).mono ?_
  rintro e w1 ⟨rfl, hb1⟩
  replace hL := hL.below hb1
  replace HB := below_call HB (Nat.le_refl _) hb1
  clear hb1
  go_wp2_with fail
  refine (num01_nil _).mono ?_
  rintro e w2 ⟨rfl, hb2⟩
  replace hL := hL.below hb2
  replace HB := below_call HB (Nat.le_refl _) hb2
  clear hb2
  go_wp2_with fail
  refine (sure01 _).mono ?_
  rintro e w3 ⟨rfl, hb3⟩
  replace hL := hL.below hb3
  replace HB := below_call HB (Nat.le_refl _) hb3
  clear hb3
  go_wp2
  go_ret
  exact ⟨rfl, HB⟩

set_option maxHeartbeats 1000000 in
theorem sums_ok3 (a : Option Addr) (zs : List Int) (cap : Nat) (more : Int) (w : World) (hL : Laid w) (R : IntRow w a zs) (hm : zs.length ≤ maxLen) (h : ¬ hasNeg zs) (ht : sumTo zs zs.length ≤ 9223372036854775807) (h0 : 0 ≤ more) (h1 : more ≤ 1048576) :
    Calls Tryd.prog 10 #[.slice a zs.length cap, .int .i64 more] w fun e w' => e = .returned (.bool true) ∧ Below w.heap.size w w' := by
  have H1 := Lib.hid (sum_ok a zs cap w R hm h ht)
  have H2 := Lib.hid (rsum_ok a zs cap w R hm h ht)
  have H3 := Lib.hid (fits_sum a zs cap more w R hm h h0 ht)
  have H4 := Lib.hid (rfits_sum a zs cap more w R hm h h0 h1)
  clear R hm
  have HB : Below w.heap.size w w := Below.refl _ w
  replace hL : Laid w := hL
  go_enter Tryd.func10, Tryd.ntmps10
  go_wp2_with fail
  refine (H1.out).mono ?_
  rintro e w' ⟨rfl, rfl⟩
  go_wp2_with fail
  refine (H2.out).mono ?_
  rintro e w' ⟨rfl, rfl⟩
  go_wp2_with fail
  refine (H3.out).mono ?_
  rintro e w' ⟨rfl, rfl⟩
  go_wp2_with fail
  refine (H4.out).mono ?_
  rintro e w' ⟨rfl, rfl⟩
  clear H1 H2 H3 H4
  go_wp2_with fail
  refine (num01_nil _).mono ?_
  rintro e w1 ⟨rfl, hb1⟩
  replace hL := hL.below hb1
  replace HB := below_call HB (Nat.le_refl _) hb1
  clear hb1
  go_wp2_with fail
  refine (num01_nil _).mono ?_
  rintro e w2 ⟨rfl, hb2⟩
  replace hL := hL.below hb2
  replace HB := below_call HB (Nat.le_refl _) hb2
  clear hb2
  go_wp2_with fail
  refine (sure01 _).mono ?_
  rintro e w3 ⟨rfl, hb3⟩
  replace hL := hL.below hb3
  replace HB := below_call HB (Nat.le_refl _) hb3
  clear hb3
  go_wp2
  go_ret
  exact ⟨rfl, HB⟩

theorem sums_any (a : Option Addr) (zs : List Int) (cap : Nat) (more : Int) (w : World) (hL : Laid w) (R : IntRow w a zs) (hm : zs.length ≤ maxLen) :
    Calls Tryd.prog 10 #[.slice a zs.length cap, .int .i64 more] w fun e w' => e = .returned (.bool true) ∧ Below w.heap.size w w' := by
  by_cases h : hasNeg zs
  · by_cases h0 : more < 0
    · exact sums_neg1 a zs cap more w hL R hm h h0
    · exact sums_neg2 a zs cap more w hL R hm h (by omega)
  · by_cases ht : sumTo zs zs.length ≤ 9223372036854775807
    · by_cases h0 : more < 0
      · exact sums_ok1 a zs cap more w hL R hm h ht h0
      · by_cases h1 : 1048576 < more
        · exact sums_ok2 a zs cap more w hL R hm h ht (by omega) h1
        · exact sums_ok3 a zs cap more w hL R hm h ht (by omega) (by omega)
    · by_cases h0 : more < 0
      · exact sums_ov1 a zs cap more w hL R hm h (by omega) h0
      · by_cases h1 : 1048576 < more
        · exact sums_ov2 a zs cap more w hL R hm h (by omega) (by omega) h1
        · exact sums_ov3 a zs cap more w hL R hm h (by omega) (by omega) (by omega)

end Go.Proofs.YtggcahcdhjnemaaDoor
