/- The walks of FixedShares, FixedMosts, FixedCompares: each call returns true. -/
import Derived.Test.YtggcahcdhjnemaaDoorRef1
import Derived.Test.YtggcahcdhjnemaaDoorSure01
import Derived.Test.YtggcahcdhjnemaaDoorNum01
set_option linter.unusedVariables false
set_option linter.unusedSimpArgs false
namespace Go.Proofs.YtggcahcdhjnemaaDoor
open Go.RowKit

set_option maxHeartbeats 4000000 in
theorem shares_any (q p : Int) (w : World) (hL : Laid w) :
    Calls Tryd.prog 4 #[.agg #[.int .i64 q, .int .i64 p]] w fun e w' => e = .returned (.bool true) ∧ Below w.heap.size w w' := by
  by_cases h : Vld q p
  · skip
    have HB : Below w.heap.size w (w.alloc (.cells #[.int .i64 q, .int .i64 p] 23)) := ((Below.refl _ w).alloc (by simp) _)
    have k0_0 : (w.alloc (.cells #[.int .i64 q, .int .i64 p] 23)).cell? ⟨w.heap.size, 0, none⟩ = some (.int .i64 q) := by simp
    have k0_1 : (w.alloc (.cells #[.int .i64 q, .int .i64 p] 23)).cell? ⟨w.heap.size, 1, none⟩ = some (.int .i64 p) := by simp
    replace hL : Laid (w.alloc (.cells #[.int .i64 q, .int .i64 p] 23)) := hL.alloc _
    go_enter Tryd.func4, Tryd.ntmps4
    go_wp2_with fail
    refine (share_ok q p _ h).mono ?_
    rintro e w1 ⟨rfl, hb1⟩
    replace k0_0 := keep hb1 k0_0
    replace k0_1 := keep hb1 k0_1
    replace hL := hL.below hb1
    replace HB := below_call HB (Nat.le_refl _) hb1
    clear hb1
    go_wp2_with fail
    refine (rshare_ok q p _ h).mono ?_
    rintro e w2 ⟨rfl, hb2⟩
    replace k0_0 := keep hb2 k0_0
    replace k0_1 := keep hb2 k0_1
    replace hL := hL.below hb2
    replace HB := below_call HB (Nat.le_refl _) hb2
    clear hb2
    go_wp2_with fail
    go_region_held3 (fun w' => w'.cell? ⟨w.heap.size, 0, none⟩ = some (.int .i64 q) ∧ w'.cell? ⟨w.heap.size, 1, none⟩ = some (.int .i64 p) ∧ Laid w' ∧ Below w.heap.size w w')
      (first
        | (go_split_ands; exact ⟨keep hb (by assumption), keep hb (by assumption), Laid.below (by assumption) hb, below_call (by assumption) (Nat.le_refl _) hb⟩)
        | (go_split_ands; exact ⟨by go_keep, by go_keep, Laid.drewN (by assumption) 1, Below.drew (by assumption)⟩))
      (first
        | (go_at_call 20; go_split_ands; refine (num01_nil _).mono ?_; rintro e w' ⟨rfl, hb⟩)
        | (go_at_call 21; go_split_ands; refine (fvalid_ok q p _ h).mono ?_; rintro e w' ⟨rfl, hb⟩)
        | (go_at_call 22; go_split_ands; refine (rvalid_ok q p _ h).mono ?_; rintro e w' ⟨rfl, hb⟩)
        | (go_at_call 23; go_split_ands; refine (sure01 _).mono ?_; rintro e w' ⟨rfl, hb⟩))
    go_split_ands
    replace k0_0 : w'.cell? ⟨w.heap.size, 0, none⟩ = some (.int .i64 q) := by assumption
    replace k0_1 : w'.cell? ⟨w.heap.size, 1, none⟩ = some (.int .i64 p) := by assumption
    replace hL : Laid w' := by assumption
    replace HB : Below w.heap.size w w' := by assumption
    clear hb
    go_wp2
    go_ret
    exact ⟨rfl, HB⟩
  · skip
    have HB : Below w.heap.size w (w.alloc (.cells #[.int .i64 q, .int .i64 p] 23)) := ((Below.refl _ w).alloc (by simp) _)
    have k0_0 : (w.alloc (.cells #[.int .i64 q, .int .i64 p] 23)).cell? ⟨w.heap.size, 0, none⟩ = some (.int .i64 q) := by simp
    have k0_1 : (w.alloc (.cells #[.int .i64 q, .int .i64 p] 23)).cell? ⟨w.heap.size, 1, none⟩ = some (.int .i64 p) := by simp
    replace hL : Laid (w.alloc (.cells #[.int .i64 q, .int .i64 p] 23)) := hL.alloc _
    go_enter Tryd.func4, Tryd.ntmps4
    go_wp2_with fail
    refine (share_bad q p _ h).mono ?_
    rintro e w1 ⟨rfl, hb1⟩
    replace k0_0 := keep hb1 k0_0
    replace k0_1 := keep hb1 k0_1
    replace hL := hL.below hb1
    replace HB := below_call HB (Nat.le_refl _) hb1
    clear hb1
    go_wp2_with fail
    refine (rshare_bad q p _ h).mono ?_
    rintro e w2 ⟨rfl, hb2⟩
    replace k0_0 := keep hb2 k0_0
    replace k0_1 := keep hb2 k0_1
    replace hL := hL.below hb2
    replace HB := below_call HB (Nat.le_refl _) hb2
    clear hb2
    go_wp2_with fail
    go_region_held3 (fun w' => w'.cell? ⟨w.heap.size, 0, none⟩ = some (.int .i64 q) ∧ w'.cell? ⟨w.heap.size, 1, none⟩ = some (.int .i64 p) ∧ Laid w' ∧ Below w.heap.size w w')
      (first
        | (go_split_ands; exact ⟨keep hb (by assumption), keep hb (by assumption), Laid.below (by assumption) hb, below_call (by assumption) (Nat.le_refl _) hb⟩)
        | (go_split_ands; exact ⟨by go_keep, by go_keep, Laid.drewN (by assumption) 1, Below.drew (by assumption)⟩))
      (first
        | (go_at_call 20; go_split_ands; refine (num01_err 2 _ (by assumption)).mono ?_; rintro e w' ⟨rfl, hb⟩)
        | (go_at_call 21; go_split_ands; refine (fvalid_bad q p _ h).mono ?_; rintro e w' ⟨rfl, hb⟩)
        | (go_at_call 22; go_split_ands; refine (rvalid_bad q p _ h).mono ?_; rintro e w' ⟨rfl, hb⟩)
        | (go_at_call 23; go_split_ands; refine (sure01 _).mono ?_; rintro e w' ⟨rfl, hb⟩))
    go_split_ands
    replace k0_0 : w'.cell? ⟨w.heap.size, 0, none⟩ = some (.int .i64 q) := by assumption
    replace k0_1 : w'.cell? ⟨w.heap.size, 1, none⟩ = some (.int .i64 p) := by assumption
    replace hL : Laid w' := by assumption
    replace HB : Below w.heap.size w w' := by assumption
    clear hb
    go_wp2
    go_ret
    exact ⟨rfl, HB⟩

set_option maxHeartbeats 1000000 in
theorem mosts_any (u p : Int) (w : World) (hL : Laid w) :
    Calls Tryd.prog 6 #[.int .i64 u, .int .i64 p] w fun e w' => e = .returned (.bool true) ∧ Below w.heap.size w w' := by
  by_cases h : 0 ≤ u ∧ u ≤ 1048576
  · by_cases k : 1 ≤ p ∧ p ≤ 1048576
    · obtain ⟨h1, h2⟩ := h
      obtain ⟨k1, k2⟩ := k
      have HB : Below w.heap.size w w := Below.refl _ w
      go_enter Tryd.func6, Tryd.ntmps6
      go_wp2_with fail
      refine (most_ok u p _ h1 h2 k1 k2).mono ?_
      rintro e w' ⟨rfl, rfl⟩
      go_wp2_with fail
      refine (rmost_ok u p _ h1 h2 k1 k2).mono ?_
      rintro e w' ⟨rfl, rfl⟩
      go_wp2_with fail
      refine (num01_nil _).mono ?_
      rintro e w1 ⟨rfl, hb1⟩
      replace HB := below_call HB (Nat.le_refl _) hb1
      clear hb1
      go_wp2_with fail
      refine (sure01 _).mono ?_
      rintro e w2 ⟨rfl, hb2⟩
      replace HB := below_call HB (Nat.le_refl _) hb2
      clear hb2
      go_wp2
      go_ret
      exact ⟨rfl, HB⟩
    · obtain ⟨h1, h2⟩ := h
      have HB : Below w.heap.size w w := Below.refl _ w
      replace hL : Laid w := hL
      have H := Lib.hid k
      clear k
      go_enter Tryd.func6, Tryd.ntmps6
      go_wp2_with fail
      refine (most_range u p _ h1 h2 H.out).mono ?_
      rintro e w' ⟨rfl, rfl⟩
      go_wp2_with fail
      refine (rmost_range u p _ h1 h2 H.out).mono ?_
      rintro e w' ⟨rfl, rfl⟩
      go_wp2_with fail
      refine (num01_err 2 _ hL).mono ?_
      rintro e w1 ⟨rfl, hb1⟩
      replace hL := hL.below hb1
      replace HB := below_call HB (Nat.le_refl _) hb1
      clear hb1
      go_wp2_with fail
      refine (sure01 _).mono ?_
      rintro e w2 ⟨rfl, hb2⟩
      replace hL := hL.below hb2
      replace HB := below_call HB (Nat.le_refl _) hb2
      clear hb2
      go_wp2
      go_ret
      exact ⟨rfl, HB⟩
  · skip
    have HB : Below w.heap.size w w := Below.refl _ w
    replace hL : Laid w := hL
    have H := Lib.hid h
    clear h
    go_enter Tryd.func6, Tryd.ntmps6
    go_wp2_with fail
    refine (most_arg u p _ H.out).mono ?_
    rintro e w' ⟨rfl, rfl⟩
    go_wp2_with fail
    refine (rmost_arg u p _ H.out).mono ?_
    rintro e w' ⟨rfl, rfl⟩
    go_wp2_with fail
    refine (num01_err 1 _ hL).mono ?_
    rintro e w1 ⟨rfl, hb1⟩
    replace hL := hL.below hb1
    replace HB := below_call HB (Nat.le_refl _) hb1
    clear hb1
    go_wp2_with fail
    refine (sure01 _).mono ?_
    rintro e w2 ⟨rfl, hb2⟩
    replace hL := hL.below hb2
    replace HB := below_call HB (Nat.le_refl _) hb2
    clear hb2
    go_wp2
    go_ret
    exact ⟨rfl, HB⟩

set_option maxHeartbeats 1000000 in
theorem compares_any (q p r s : Int) (w : World) (hL : Laid w) :
    Calls Tryd.prog 7 #[.agg #[.int .i64 q, .int .i64 p], .agg #[.int .i64 r, .int .i64 s]] w fun e w' => e = .returned (.bool true) ∧ Below w.heap.size w w' := by
  by_cases h : Vld q p ∧ Vld r s
  · obtain ⟨ha, hb⟩ := h
    have HB : Below w.heap.size w ((w.alloc (.cells #[.int .i64 q, .int .i64 p] 23)).alloc (.cells #[.int .i64 r, .int .i64 s] 23)) := (((Below.refl _ w).alloc (by simp) _).alloc (by simp) _)
    have k0_0 : ((w.alloc (.cells #[.int .i64 q, .int .i64 p] 23)).alloc (.cells #[.int .i64 r, .int .i64 s] 23)).cell? ⟨w.heap.size, 0, none⟩ = some (.int .i64 q) := by simp
    have k0_1 : ((w.alloc (.cells #[.int .i64 q, .int .i64 p] 23)).alloc (.cells #[.int .i64 r, .int .i64 s] 23)).cell? ⟨w.heap.size, 1, none⟩ = some (.int .i64 p) := by simp
    have k1_0 : ((w.alloc (.cells #[.int .i64 q, .int .i64 p] 23)).alloc (.cells #[.int .i64 r, .int .i64 s] 23)).cell? ⟨w.heap.size + 1, 0, none⟩ = some (.int .i64 r) := by simp
    have k1_1 : ((w.alloc (.cells #[.int .i64 q, .int .i64 p] 23)).alloc (.cells #[.int .i64 r, .int .i64 s] 23)).cell? ⟨w.heap.size + 1, 1, none⟩ = some (.int .i64 s) := by simp
    replace hL : Laid ((w.alloc (.cells #[.int .i64 q, .int .i64 p] 23)).alloc (.cells #[.int .i64 r, .int .i64 s] 23)) := (hL.alloc _).alloc _
    go_enter Tryd.func7, Tryd.ntmps7
    go_wp2_with fail
    refine (compare_ok q p r s _ ha hb).mono ?_
    rintro e w1 ⟨rfl, hb1⟩
    replace k0_0 := keep hb1 k0_0
    replace k0_1 := keep hb1 k0_1
    replace k1_0 := keep hb1 k1_0
    replace k1_1 := keep hb1 k1_1
    replace hL := hL.below hb1
    replace HB := below_call HB (Nat.le_refl _) hb1
    clear hb1
    go_wp2_with fail
    refine (rcompare_ok q p r s _ ha hb).mono ?_
    rintro e w2 ⟨rfl, hb2⟩
    replace k0_0 := keep hb2 k0_0
    replace k0_1 := keep hb2 k0_1
    replace k1_0 := keep hb2 k1_0
    replace k1_1 := keep hb2 k1_1
    replace hL := hL.below hb2
    replace HB := below_call HB (Nat.le_refl _) hb2
    clear hb2
    go_wp2_with fail
    refine (num01_nil _).mono ?_
    rintro e w3 ⟨rfl, hb3⟩
    replace k0_0 := keep hb3 k0_0
    replace k0_1 := keep hb3 k0_1
    replace k1_0 := keep hb3 k1_0
    replace k1_1 := keep hb3 k1_1
    replace hL := hL.below hb3
    replace HB := below_call HB (Nat.le_refl _) hb3
    clear hb3
    go_wp2_with fail
    refine (sure01 _).mono ?_
    rintro e w4 ⟨rfl, hb4⟩
    replace k0_0 := keep hb4 k0_0
    replace k0_1 := keep hb4 k0_1
    replace k1_0 := keep hb4 k1_0
    replace k1_1 := keep hb4 k1_1
    replace hL := hL.below hb4
    replace HB := below_call HB (Nat.le_refl _) hb4
    clear hb4
    go_wp2
    go_ret
    exact ⟨rfl, HB⟩
  · have H := Lib.hid h
    clear h
    have HB : Below w.heap.size w ((w.alloc (.cells #[.int .i64 q, .int .i64 p] 23)).alloc (.cells #[.int .i64 r, .int .i64 s] 23)) := (((Below.refl _ w).alloc (by simp) _).alloc (by simp) _)
    have k0_0 : ((w.alloc (.cells #[.int .i64 q, .int .i64 p] 23)).alloc (.cells #[.int .i64 r, .int .i64 s] 23)).cell? ⟨w.heap.size, 0, none⟩ = some (.int .i64 q) := by simp
    have k0_1 : ((w.alloc (.cells #[.int .i64 q, .int .i64 p] 23)).alloc (.cells #[.int .i64 r, .int .i64 s] 23)).cell? ⟨w.heap.size, 1, none⟩ = some (.int .i64 p) := by simp
    have k1_0 : ((w.alloc (.cells #[.int .i64 q, .int .i64 p] 23)).alloc (.cells #[.int .i64 r, .int .i64 s] 23)).cell? ⟨w.heap.size + 1, 0, none⟩ = some (.int .i64 r) := by simp
    have k1_1 : ((w.alloc (.cells #[.int .i64 q, .int .i64 p] 23)).alloc (.cells #[.int .i64 r, .int .i64 s] 23)).cell? ⟨w.heap.size + 1, 1, none⟩ = some (.int .i64 s) := by simp
    replace hL : Laid ((w.alloc (.cells #[.int .i64 q, .int .i64 p] 23)).alloc (.cells #[.int .i64 r, .int .i64 s] 23)) := (hL.alloc _).alloc _
    go_enter Tryd.func7, Tryd.ntmps7
    go_wp2_with fail
    refine (compare_bad q p r s _ H.out).mono ?_
    rintro e w1 ⟨rfl, hb1⟩
    replace k0_0 := keep hb1 k0_0
    replace k0_1 := keep hb1 k0_1
    replace k1_0 := keep hb1 k1_0
    replace k1_1 := keep hb1 k1_1
    replace hL := hL.below hb1
    replace HB := below_call HB (Nat.le_refl _) hb1
    clear hb1
    go_wp2_with fail
    refine (rcompare_bad q p r s _ H.out).mono ?_
    rintro e w2 ⟨rfl, hb2⟩
    replace k0_0 := keep hb2 k0_0
    replace k0_1 := keep hb2 k0_1
    replace k1_0 := keep hb2 k1_0
    replace k1_1 := keep hb2 k1_1
    replace hL := hL.below hb2
    replace HB := below_call HB (Nat.le_refl _) hb2
    clear hb2
    go_wp2_with fail
    refine (num01_err 2 _ hL).mono ?_
    rintro e w3 ⟨rfl, hb3⟩
    replace k0_0 := keep hb3 k0_0
    replace k0_1 := keep hb3 k0_1
    replace k1_0 := keep hb3 k1_0
    replace k1_1 := keep hb3 k1_1
    replace hL := hL.below hb3
    replace HB := below_call HB (Nat.le_refl _) hb3
    clear hb3
    go_wp2_with fail
    refine (sure01 _).mono ?_
    rintro e w4 ⟨rfl, hb4⟩
    replace k0_0 := keep hb4 k0_0
    replace k0_1 := keep hb4 k0_1
    replace k1_0 := keep hb4 k1_0
    replace k1_1 := keep hb4 k1_1
    replace hL := hL.below hb4
    replace HB := below_call HB (Nat.le_refl _) hb4
    clear hb4
    go_wp2
    go_ret
    exact ⟨rfl, HB⟩

end Go.Proofs.YtggcahcdhjnemaaDoor
