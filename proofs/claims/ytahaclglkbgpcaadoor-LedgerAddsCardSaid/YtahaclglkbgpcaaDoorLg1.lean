/- ledger.valid and the reference's MayBe, by contract. -/
import Derived.Test.YtahaclglkbgpcaaDoorBase
set_option linter.unusedVariables false
set_option linter.unusedSimpArgs false
namespace Go.Proofs.YtahaclglkbgpcaaDoor
open Go.RowKit
set_option maxRecDepth 100000

/-- May an account be? -/
def okN (n : Int) : Prop := 0 ≤ n ∧ n ≤ 1073741824
instance (n : Int) : Decidable (okN n) := by unfold okN; infer_instance
def AV (a0 a1 a2 a3 a4 a5 : Int) : Prop := okN a0 ∧ okN a1 ∧ okN a2 ∧ okN a3 ∧ okN a4 ∧ okN a5
instance (a0 a1 a2 a3 a4 a5 : Int) : Decidable (AV a0 a1 a2 a3 a4 a5) := by unfold AV; infer_instance
abbrev acc (a0 a1 a2 a3 a4 a5 : Int) : Value := .agg #[.int .i64 a0, .int .i64 a1, .int .i64 a2, .int .i64 a3, .int .i64 a4, .int .i64 a5]
set_option maxHeartbeats 2000000 in
theorem valid_any (a0 a1 a2 a3 a4 a5 : Int) (w : World) :
    Calls Tryd.prog 19 #[acc a0 a1 a2 a3 a4 a5] w fun e w' => e = .returned (.bool (decide (AV a0 a1 a2 a3 a4 a5))) ∧ Below w.heap.size w w' := by
  have fin : ∀ (W : World) (v : Bool), v = decide (AV a0 a1 a2 a3 a4 a5) → Below w.heap.size w W → (Ending.returned (.bool v) = .returned (.bool (decide (AV a0 a1 a2 a3 a4 a5)))) ∧ Below w.heap.size w W := fun W v h hb => ⟨by rw [h], hb⟩
  have HF := Lib.hid fin
  clear fin
  have HB : Below w.heap.size w (w.alloc (.cells #[.int .i64 a0, .int .i64 a1, .int .i64 a2, .int .i64 a3, .int .i64 a4, .int .i64 a5] 23)) := ((Below.refl _ w).alloc (by simp) _)
  have k0_0 : (w.alloc (.cells #[.int .i64 a0, .int .i64 a1, .int .i64 a2, .int .i64 a3, .int .i64 a4, .int .i64 a5] 23)).cell? ⟨w.heap.size, 0, none⟩ = some (.int .i64 a0) := by simp
  have k0_1 : (w.alloc (.cells #[.int .i64 a0, .int .i64 a1, .int .i64 a2, .int .i64 a3, .int .i64 a4, .int .i64 a5] 23)).cell? ⟨w.heap.size, 1, none⟩ = some (.int .i64 a1) := by simp
  have k0_2 : (w.alloc (.cells #[.int .i64 a0, .int .i64 a1, .int .i64 a2, .int .i64 a3, .int .i64 a4, .int .i64 a5] 23)).cell? ⟨w.heap.size, 2, none⟩ = some (.int .i64 a2) := by simp
  have k0_3 : (w.alloc (.cells #[.int .i64 a0, .int .i64 a1, .int .i64 a2, .int .i64 a3, .int .i64 a4, .int .i64 a5] 23)).cell? ⟨w.heap.size, 3, none⟩ = some (.int .i64 a3) := by simp
  have k0_4 : (w.alloc (.cells #[.int .i64 a0, .int .i64 a1, .int .i64 a2, .int .i64 a3, .int .i64 a4, .int .i64 a5] 23)).cell? ⟨w.heap.size, 4, none⟩ = some (.int .i64 a4) := by simp
  have k0_5 : (w.alloc (.cells #[.int .i64 a0, .int .i64 a1, .int .i64 a2, .int .i64 a3, .int .i64 a4, .int .i64 a5] 23)).cell? ⟨w.heap.size, 5, none⟩ = some (.int .i64 a5) := by simp
  have HBH := Lib.hid HB
  clear HB
  go_enter Tryd.func19, Tryd.ntmps19
  go_wp2_with fail
  refine wp_loop_rounds 7 ?_
  rw [rounds_succ]
  by_cases l0 : a0 < 0
  · have t0 : decide (a0 < 0) = true := by simpa using l0
    have hv : false = decide (AV a0 a1 a2 a3 a4 a5) := by symm; rw [decide_eq_false_iff_not]; unfold AV okN; omega
    have HV := Lib.hid hv
    clear hv l0
    go_wp2
    go_ret
    exact HF.out _ _ HV.out (((Below.refl _ w).alloc (Nat.le_refl _) _).alloc (by simp) _)
  · have t0 : decide (a0 < 0) = false := by simpa using l0
    by_cases h0 : 1073741824 < a0
    · have u0 : decide (1073741824 < a0) = true := by simpa using h0
      have hv : false = decide (AV a0 a1 a2 a3 a4 a5) := by symm; rw [decide_eq_false_iff_not]; unfold AV okN; omega
      have HV := Lib.hid hv
      clear hv l0 h0
      go_wp2
      go_ret
      exact HF.out _ _ HV.out (((Below.refl _ w).alloc (Nat.le_refl _) _).alloc (by simp) _)
    · have u0 : decide (1073741824 < a0) = false := by simpa using h0
      have L0 := Lib.hid l0
      have H0 := Lib.hid h0
      clear l0 h0
      go_wp2_with fail
      rw [rounds_succ]
      by_cases l1 : a1 < 0
      · have t1 : decide (a1 < 0) = true := by simpa using l1
        have hv : false = decide (AV a0 a1 a2 a3 a4 a5) := by symm; rw [decide_eq_false_iff_not]; unfold AV okN; omega
        have HV := Lib.hid hv
        clear hv l1
        go_wp2
        go_ret
        exact HF.out _ _ HV.out (((Below.refl _ w).alloc (Nat.le_refl _) _).alloc (by simp) _)
      · have t1 : decide (a1 < 0) = false := by simpa using l1
        by_cases h1 : 1073741824 < a1
        · have u1 : decide (1073741824 < a1) = true := by simpa using h1
          have hv : false = decide (AV a0 a1 a2 a3 a4 a5) := by symm; rw [decide_eq_false_iff_not]; unfold AV okN; omega
          have HV := Lib.hid hv
          clear hv l1 h1
          go_wp2
          go_ret
          exact HF.out _ _ HV.out (((Below.refl _ w).alloc (Nat.le_refl _) _).alloc (by simp) _)
        · have u1 : decide (1073741824 < a1) = false := by simpa using h1
          have L1 := Lib.hid l1
          have H1 := Lib.hid h1
          clear l1 h1
          go_wp2_with fail
          rw [rounds_succ]
          by_cases l2 : a2 < 0
          · have t2 : decide (a2 < 0) = true := by simpa using l2
            have hv : false = decide (AV a0 a1 a2 a3 a4 a5) := by symm; rw [decide_eq_false_iff_not]; unfold AV okN; omega
            have HV := Lib.hid hv
            clear hv l2
            go_wp2
            go_ret
            exact HF.out _ _ HV.out (((Below.refl _ w).alloc (Nat.le_refl _) _).alloc (by simp) _)
          · have t2 : decide (a2 < 0) = false := by simpa using l2
            by_cases h2 : 1073741824 < a2
            · have u2 : decide (1073741824 < a2) = true := by simpa using h2
              have hv : false = decide (AV a0 a1 a2 a3 a4 a5) := by symm; rw [decide_eq_false_iff_not]; unfold AV okN; omega
              have HV := Lib.hid hv
              clear hv l2 h2
              go_wp2
              go_ret
              exact HF.out _ _ HV.out (((Below.refl _ w).alloc (Nat.le_refl _) _).alloc (by simp) _)
            · have u2 : decide (1073741824 < a2) = false := by simpa using h2
              have L2 := Lib.hid l2
              have H2 := Lib.hid h2
              clear l2 h2
              go_wp2_with fail
              rw [rounds_succ]
              by_cases l3 : a3 < 0
              · have t3 : decide (a3 < 0) = true := by simpa using l3
                have hv : false = decide (AV a0 a1 a2 a3 a4 a5) := by symm; rw [decide_eq_false_iff_not]; unfold AV okN; omega
                have HV := Lib.hid hv
                clear hv l3
                go_wp2
                go_ret
                exact HF.out _ _ HV.out (((Below.refl _ w).alloc (Nat.le_refl _) _).alloc (by simp) _)
              · have t3 : decide (a3 < 0) = false := by simpa using l3
                by_cases h3 : 1073741824 < a3
                · have u3 : decide (1073741824 < a3) = true := by simpa using h3
                  have hv : false = decide (AV a0 a1 a2 a3 a4 a5) := by symm; rw [decide_eq_false_iff_not]; unfold AV okN; omega
                  have HV := Lib.hid hv
                  clear hv l3 h3
                  go_wp2
                  go_ret
                  exact HF.out _ _ HV.out (((Below.refl _ w).alloc (Nat.le_refl _) _).alloc (by simp) _)
                · have u3 : decide (1073741824 < a3) = false := by simpa using h3
                  have L3 := Lib.hid l3
                  have H3 := Lib.hid h3
                  clear l3 h3
                  go_wp2_with fail
                  rw [rounds_succ]
                  by_cases l4 : a4 < 0
                  · have t4 : decide (a4 < 0) = true := by simpa using l4
                    have hv : false = decide (AV a0 a1 a2 a3 a4 a5) := by symm; rw [decide_eq_false_iff_not]; unfold AV okN; omega
                    have HV := Lib.hid hv
                    clear hv l4
                    go_wp2
                    go_ret
                    exact HF.out _ _ HV.out (((Below.refl _ w).alloc (Nat.le_refl _) _).alloc (by simp) _)
                  · have t4 : decide (a4 < 0) = false := by simpa using l4
                    by_cases h4 : 1073741824 < a4
                    · have u4 : decide (1073741824 < a4) = true := by simpa using h4
                      have hv : false = decide (AV a0 a1 a2 a3 a4 a5) := by symm; rw [decide_eq_false_iff_not]; unfold AV okN; omega
                      have HV := Lib.hid hv
                      clear hv l4 h4
                      go_wp2
                      go_ret
                      exact HF.out _ _ HV.out (((Below.refl _ w).alloc (Nat.le_refl _) _).alloc (by simp) _)
                    · have u4 : decide (1073741824 < a4) = false := by simpa using h4
                      have L4 := Lib.hid l4
                      have H4 := Lib.hid h4
                      clear l4 h4
                      go_wp2_with fail
                      rw [rounds_succ]
                      by_cases l5 : a5 < 0
                      · have t5 : decide (a5 < 0) = true := by simpa using l5
                        have hv : false = decide (AV a0 a1 a2 a3 a4 a5) := by symm; rw [decide_eq_false_iff_not]; unfold AV okN; omega
                        have HV := Lib.hid hv
                        clear hv l5
                        go_wp2
                        go_ret
                        exact HF.out _ _ HV.out (((Below.refl _ w).alloc (Nat.le_refl _) _).alloc (by simp) _)
                      · have t5 : decide (a5 < 0) = false := by simpa using l5
                        by_cases h5 : 1073741824 < a5
                        · have u5 : decide (1073741824 < a5) = true := by simpa using h5
                          have hv : false = decide (AV a0 a1 a2 a3 a4 a5) := by symm; rw [decide_eq_false_iff_not]; unfold AV okN; omega
                          have HV := Lib.hid hv
                          clear hv l5 h5
                          go_wp2
                          go_ret
                          exact HF.out _ _ HV.out (((Below.refl _ w).alloc (Nat.le_refl _) _).alloc (by simp) _)
                        · have u5 : decide (1073741824 < a5) = false := by simpa using h5
                          have L5 := Lib.hid l5
                          have H5 := Lib.hid h5
                          clear l5 h5
                          go_wp2_with fail
                          rw [rounds_succ]
                          have hv : true = decide (AV a0 a1 a2 a3 a4 a5) := by
                            symm; rw [decide_eq_true_iff]; unfold AV okN
                            have := L0.out; have := H0.out
                            have := L1.out; have := H1.out
                            have := L2.out; have := H2.out
                            have := L3.out; have := H3.out
                            have := L4.out; have := H4.out
                            have := L5.out; have := H5.out
                            omega
                          have HV := Lib.hid hv
                          clear hv
                          go_wp2
                          go_ret
                          exact HF.out _ _ HV.out (((Below.refl _ w).alloc (Nat.le_refl _) _).alloc (by simp) _)
set_option maxHeartbeats 2000000 in
theorem maybe_any (a0 a1 a2 a3 a4 a5 : Int) (w : World) :
    Calls Tryd.prog 21 #[acc a0 a1 a2 a3 a4 a5] w fun e w' => e = .returned (.bool (decide (AV a0 a1 a2 a3 a4 a5))) ∧ Below w.heap.size w w' := by
  have fin : ∀ (W : World) (v : Bool), v = decide (AV a0 a1 a2 a3 a4 a5) → Below w.heap.size w W → (Ending.returned (.bool v) = .returned (.bool (decide (AV a0 a1 a2 a3 a4 a5)))) ∧ Below w.heap.size w W := fun W v h hb => ⟨by rw [h], hb⟩
  have HF := Lib.hid fin
  clear fin
  have HB : Below w.heap.size w (w.alloc (.cells #[.int .i64 a0, .int .i64 a1, .int .i64 a2, .int .i64 a3, .int .i64 a4, .int .i64 a5] 23)) := ((Below.refl _ w).alloc (by simp) _)
  have k0_0 : (w.alloc (.cells #[.int .i64 a0, .int .i64 a1, .int .i64 a2, .int .i64 a3, .int .i64 a4, .int .i64 a5] 23)).cell? ⟨w.heap.size, 0, none⟩ = some (.int .i64 a0) := by simp
  have k0_1 : (w.alloc (.cells #[.int .i64 a0, .int .i64 a1, .int .i64 a2, .int .i64 a3, .int .i64 a4, .int .i64 a5] 23)).cell? ⟨w.heap.size, 1, none⟩ = some (.int .i64 a1) := by simp
  have k0_2 : (w.alloc (.cells #[.int .i64 a0, .int .i64 a1, .int .i64 a2, .int .i64 a3, .int .i64 a4, .int .i64 a5] 23)).cell? ⟨w.heap.size, 2, none⟩ = some (.int .i64 a2) := by simp
  have k0_3 : (w.alloc (.cells #[.int .i64 a0, .int .i64 a1, .int .i64 a2, .int .i64 a3, .int .i64 a4, .int .i64 a5] 23)).cell? ⟨w.heap.size, 3, none⟩ = some (.int .i64 a3) := by simp
  have k0_4 : (w.alloc (.cells #[.int .i64 a0, .int .i64 a1, .int .i64 a2, .int .i64 a3, .int .i64 a4, .int .i64 a5] 23)).cell? ⟨w.heap.size, 4, none⟩ = some (.int .i64 a4) := by simp
  have k0_5 : (w.alloc (.cells #[.int .i64 a0, .int .i64 a1, .int .i64 a2, .int .i64 a3, .int .i64 a4, .int .i64 a5] 23)).cell? ⟨w.heap.size, 5, none⟩ = some (.int .i64 a5) := by simp
  have HBH := Lib.hid HB
  clear HB
  go_enter Tryd.func21, Tryd.ntmps21
  go_wp2_with fail
  refine wp_loop_rounds 7 ?_
  rw [rounds_succ]
  by_cases l0 : a0 < 0
  · have t0 : decide (a0 < 0) = true := by simpa using l0
    have hv : false = decide (AV a0 a1 a2 a3 a4 a5) := by symm; rw [decide_eq_false_iff_not]; unfold AV okN; omega
    have HV := Lib.hid hv
    clear hv l0
    go_wp2
    go_ret
    exact HF.out _ _ HV.out (((Below.refl _ w).alloc (Nat.le_refl _) _).alloc (by simp) _)
  · have t0 : decide (a0 < 0) = false := by simpa using l0
    by_cases h0 : 1073741824 < a0
    · have u0 : decide (1073741824 < a0) = true := by simpa using h0
      have hv : false = decide (AV a0 a1 a2 a3 a4 a5) := by symm; rw [decide_eq_false_iff_not]; unfold AV okN; omega
      have HV := Lib.hid hv
      clear hv l0 h0
      go_wp2
      go_ret
      exact HF.out _ _ HV.out (((Below.refl _ w).alloc (Nat.le_refl _) _).alloc (by simp) _)
    · have u0 : decide (1073741824 < a0) = false := by simpa using h0
      have L0 := Lib.hid l0
      have H0 := Lib.hid h0
      clear l0 h0
      go_wp2_with fail
      rw [rounds_succ]
      by_cases l1 : a1 < 0
      · have t1 : decide (a1 < 0) = true := by simpa using l1
        have hv : false = decide (AV a0 a1 a2 a3 a4 a5) := by symm; rw [decide_eq_false_iff_not]; unfold AV okN; omega
        have HV := Lib.hid hv
        clear hv l1
        go_wp2
        go_ret
        exact HF.out _ _ HV.out (((Below.refl _ w).alloc (Nat.le_refl _) _).alloc (by simp) _)
      · have t1 : decide (a1 < 0) = false := by simpa using l1
        by_cases h1 : 1073741824 < a1
        · have u1 : decide (1073741824 < a1) = true := by simpa using h1
          have hv : false = decide (AV a0 a1 a2 a3 a4 a5) := by symm; rw [decide_eq_false_iff_not]; unfold AV okN; omega
          have HV := Lib.hid hv
          clear hv l1 h1
          go_wp2
          go_ret
          exact HF.out _ _ HV.out (((Below.refl _ w).alloc (Nat.le_refl _) _).alloc (by simp) _)
        · have u1 : decide (1073741824 < a1) = false := by simpa using h1
          have L1 := Lib.hid l1
          have H1 := Lib.hid h1
          clear l1 h1
          go_wp2_with fail
          rw [rounds_succ]
          by_cases l2 : a2 < 0
          · have t2 : decide (a2 < 0) = true := by simpa using l2
            have hv : false = decide (AV a0 a1 a2 a3 a4 a5) := by symm; rw [decide_eq_false_iff_not]; unfold AV okN; omega
            have HV := Lib.hid hv
            clear hv l2
            go_wp2
            go_ret
            exact HF.out _ _ HV.out (((Below.refl _ w).alloc (Nat.le_refl _) _).alloc (by simp) _)
          · have t2 : decide (a2 < 0) = false := by simpa using l2
            by_cases h2 : 1073741824 < a2
            · have u2 : decide (1073741824 < a2) = true := by simpa using h2
              have hv : false = decide (AV a0 a1 a2 a3 a4 a5) := by symm; rw [decide_eq_false_iff_not]; unfold AV okN; omega
              have HV := Lib.hid hv
              clear hv l2 h2
              go_wp2
              go_ret
              exact HF.out _ _ HV.out (((Below.refl _ w).alloc (Nat.le_refl _) _).alloc (by simp) _)
            · have u2 : decide (1073741824 < a2) = false := by simpa using h2
              have L2 := Lib.hid l2
              have H2 := Lib.hid h2
              clear l2 h2
              go_wp2_with fail
              rw [rounds_succ]
              by_cases l3 : a3 < 0
              · have t3 : decide (a3 < 0) = true := by simpa using l3
                have hv : false = decide (AV a0 a1 a2 a3 a4 a5) := by symm; rw [decide_eq_false_iff_not]; unfold AV okN; omega
                have HV := Lib.hid hv
                clear hv l3
                go_wp2
                go_ret
                exact HF.out _ _ HV.out (((Below.refl _ w).alloc (Nat.le_refl _) _).alloc (by simp) _)
              · have t3 : decide (a3 < 0) = false := by simpa using l3
                by_cases h3 : 1073741824 < a3
                · have u3 : decide (1073741824 < a3) = true := by simpa using h3
                  have hv : false = decide (AV a0 a1 a2 a3 a4 a5) := by symm; rw [decide_eq_false_iff_not]; unfold AV okN; omega
                  have HV := Lib.hid hv
                  clear hv l3 h3
                  go_wp2
                  go_ret
                  exact HF.out _ _ HV.out (((Below.refl _ w).alloc (Nat.le_refl _) _).alloc (by simp) _)
                · have u3 : decide (1073741824 < a3) = false := by simpa using h3
                  have L3 := Lib.hid l3
                  have H3 := Lib.hid h3
                  clear l3 h3
                  go_wp2_with fail
                  rw [rounds_succ]
                  by_cases l4 : a4 < 0
                  · have t4 : decide (a4 < 0) = true := by simpa using l4
                    have hv : false = decide (AV a0 a1 a2 a3 a4 a5) := by symm; rw [decide_eq_false_iff_not]; unfold AV okN; omega
                    have HV := Lib.hid hv
                    clear hv l4
                    go_wp2
                    go_ret
                    exact HF.out _ _ HV.out (((Below.refl _ w).alloc (Nat.le_refl _) _).alloc (by simp) _)
                  · have t4 : decide (a4 < 0) = false := by simpa using l4
                    by_cases h4 : 1073741824 < a4
                    · have u4 : decide (1073741824 < a4) = true := by simpa using h4
                      have hv : false = decide (AV a0 a1 a2 a3 a4 a5) := by symm; rw [decide_eq_false_iff_not]; unfold AV okN; omega
                      have HV := Lib.hid hv
                      clear hv l4 h4
                      go_wp2
                      go_ret
                      exact HF.out _ _ HV.out (((Below.refl _ w).alloc (Nat.le_refl _) _).alloc (by simp) _)
                    · have u4 : decide (1073741824 < a4) = false := by simpa using h4
                      have L4 := Lib.hid l4
                      have H4 := Lib.hid h4
                      clear l4 h4
                      go_wp2_with fail
                      rw [rounds_succ]
                      by_cases l5 : a5 < 0
                      · have t5 : decide (a5 < 0) = true := by simpa using l5
                        have hv : false = decide (AV a0 a1 a2 a3 a4 a5) := by symm; rw [decide_eq_false_iff_not]; unfold AV okN; omega
                        have HV := Lib.hid hv
                        clear hv l5
                        go_wp2
                        go_ret
                        exact HF.out _ _ HV.out (((Below.refl _ w).alloc (Nat.le_refl _) _).alloc (by simp) _)
                      · have t5 : decide (a5 < 0) = false := by simpa using l5
                        by_cases h5 : 1073741824 < a5
                        · have u5 : decide (1073741824 < a5) = true := by simpa using h5
                          have hv : false = decide (AV a0 a1 a2 a3 a4 a5) := by symm; rw [decide_eq_false_iff_not]; unfold AV okN; omega
                          have HV := Lib.hid hv
                          clear hv l5 h5
                          go_wp2
                          go_ret
                          exact HF.out _ _ HV.out (((Below.refl _ w).alloc (Nat.le_refl _) _).alloc (by simp) _)
                        · have u5 : decide (1073741824 < a5) = false := by simpa using h5
                          have L5 := Lib.hid l5
                          have H5 := Lib.hid h5
                          clear l5 h5
                          go_wp2_with fail
                          rw [rounds_succ]
                          have hv : true = decide (AV a0 a1 a2 a3 a4 a5) := by
                            symm; rw [decide_eq_true_iff]; unfold AV okN
                            have := L0.out; have := H0.out
                            have := L1.out; have := H1.out
                            have := L2.out; have := H2.out
                            have := L3.out; have := H3.out
                            have := L4.out; have := H4.out
                            have := L5.out; have := H5.out
                            omega
                          have HV := Lib.hid hv
                          clear hv
                          go_wp2
                          go_ret
                          exact HF.out _ _ HV.out (((Below.refl _ w).alloc (Nat.le_refl _) _).alloc (by simp) _)
end Go.Proofs.YtahaclglkbgpcaaDoor
