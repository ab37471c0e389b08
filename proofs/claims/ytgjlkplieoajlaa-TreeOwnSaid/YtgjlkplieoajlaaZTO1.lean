/- Of the text TO1 only what this claim needs (shake.py, this repo's). -/
import Derived.Test.YtgjlkplieoajlaaZTO2
set_option linter.unusedVariables false
set_option linter.unusedSimpArgs false
namespace Go.Proofs.Ytgjlkplieoajlaa
open Go.RowKit
open Go.Proofs.YtgjlkplieoajlaaW.PrintWords (Kd Drawn0 Kept rd rdOf)
open Go.Proofs.Ytgjlkplieoajlaa.PTreeWhole
set_option maxRecDepth 100000

set_option maxHeartbeats 8000000 in
theorem town_ok (A : Option Addr) (n c : Nat) (w : World) (hO : OP3 w A n) (hn : n ≤ 9223372036854775807) :
    Calls Try.prog 3 #[.slice A n c] w fun e w' => e = .returned (.bool true) ∧ Below w.heap.size w w' := by
  have HO := Lib.hid hO
  obtain ⟨r, hr⟩ : ∃ r, r = rootH := ⟨_, rfl⟩
  have HRT := Lib.hid hr
  clear hO hr
  go_enter Try.func3, Try.ntmps3
  go_wp2_with fail
  refine (tnew_ok _).mono ?_
  rintro e w0 ⟨q, t, g, cap, rfl, hT, hg, hb⟩
  have HT0 := Lib.hid hT
  have HB0 := Lib.hid hb
  have HG := Lib.hid hg
  clear hT hg hb
  go_wp2_with fail
  go_loopw [4] (fun i wr => ∃ (k : Nat) (xs : List Nk) (dep : Nat → Nat), (k ≤ n ∧ k ≤ 60) ∧ i = .int .i64 k ∧ Hid (TI xs dep) ∧ Hid (TRE wr q t g cap xs) ∧ Hid (Below w.heap.size w wr)) (fun i _ => n - (intOf i).toNat)
  case atStart => exact ⟨0, _, _, by omega, rfl, Lib.hid TI.start, HT0, HB0⟩
  case round =>
    clear HT0 HB0
    obtain ⟨k, xs, dep, hk, rfl, hI, hT, hB⟩ := hrel
    by_cases hlt : k < n ∧ k < 60
    · obtain ⟨hlt1, hlt2⟩ := hlt
      obtain ⟨b, o, rfl, k0, k1, k2, e0, e1, e2⟩ : ∃ b o, A = some ⟨b, o, none⟩ ∧ ∃ k0 k1 k2 : Int, wr.cell? ⟨b, o + k * 3, none⟩ = some (.int .i64 k0) ∧ wr.cell? ⟨b, o + k * 3 + 1, none⟩ = some (.int .i64 k1) ∧ wr.cell? ⟨b, o + k * 3 + 2, none⟩ = some (.int .i64 k2) := by
        rcases HO.out with h | ⟨b, o, e, h⟩
        · omega
        · obtain ⟨k0, k1, k2, h0, h1, h2⟩ := h k hlt1
          exact ⟨b, o, e, k0, k1, k2, keep hB.out h0, keep hB.out h1, keep hB.out h2⟩
      go_wp2_with fail
      refine (tall_any hI.out q t g cap _ hT.out).mono ?_
      rintro e w2 ⟨v, rfl, hR, hb⟩
      obtain ⟨A2, ca, rfl⟩ := Kd.R_slice hR
      obtain ⟨m, hm⟩ : ∃ m, m = (walkF xs 8 rootH).length := ⟨_, rfl⟩
      have hm1 : 1 ≤ m ∧ m ≤ 64 := by
        have := hI.out.walk_len 8 hI.out.rootAt
        have := walk_pos xs 8 rootH
        omega
      have z0 : ((m : Int) == 0) = false := by rw [beq_eq_false_iff_ne]; omega
      have z0' : decide ((m : Int) = 0) = false := decide_eq_false (by omega)
      have z0'' : decide (m = 0) = false := decide_eq_false (by omega)
      obtain ⟨rr, hr, hrm'⟩ := umod k1 (m : Int) (by omega) (by omega)
      have hrm : rr < m := by omega
      obtain ⟨z, hz⟩ : ∃ z, (walkF xs 8 rootH)[rr]? = some z := ⟨_, List.getElem?_eq_getElem (by omega)⟩
      obtain ⟨gh, rfl, hc⟩ := (RH.rd hR).at hz
      obtain ⟨j, y, -, hj, -⟩ := hI.out.walk_at 8 rootH 0 _ hI.out.rootAt z (List.mem_of_getElem? hz)
      rw [← hm]
      have e1' := keep hb e1
      have HA := Lib.hid (tadd_any hI.out q t g cap j z y w2 (hT.out.below hb) hj)
      have HB2 := Lib.hid (below_call hB.out (Nat.le_refl _) hb)
      clear hR hb hz hj hI hT hB e0 e1 e2 hm
      go_wp2_with fail
      refine HA.out.mono ?_
      rintro e w3 ⟨a3, b3, ys, dep3, rfl, hT3, hI3, hc3⟩
      have HT3 := Lib.hid hT3
      have HI3 := Lib.hid hI3
      have HB3 := Lib.hid (HB2.out.trans (chg_baseN hc3 HB2.out.size HG.out))
      clear hT3 hI3 hc3
      go_wp2
      go_roundw
      case rel => exact ⟨k + 1, ys, dep3, by omega, by go_num, HI3, HT3, HB3⟩
      case measure => simp [intOf]; omega
    · obtain ⟨nL, hlL⟩ : ∃ m, m = (walkF xs 8 rootH).length := ⟨_, rfl⟩
      obtain ⟨nK, hkL⟩ : ∃ m, m = (kidsF xs r).length := ⟨_, rfl⟩
      have hnL := hI.out.walk_len 8 hI.out.rootAt
      have hnK := kids_len hI.out.nm r
      have hlL' : nL ≤ 64 := by omega
      have hkL' : nK ≤ 64 := by omega
      have HLL := Lib.hid hlL
      have HKL := Lib.hid hkL
      clear hlL hkL hnL hnK
      by_cases hk1 : k < n
      · have d1 : decide ((k : Int) < (n : Int)) = true := decide_eq_true (by omega)
        have d1' : decide (k < n) = true := decide_eq_true hk1
        have d2 : decide ((k : Int) < 60) = false := decide_eq_false (by omega)
        have d2' : decide (k < 60) = false := decide_eq_false (by omega)
        clear hk1 hlt
        go_wp2_with fail
        refine (tall_any hI.out q t g cap wr hT.out).mono ?_
        rintro e w1 ⟨v1, rfl, hR1, hb1⟩
        have HT1 := Lib.hid (hT.out.below hb1)
        have HB1 := Lib.hid hb1
        obtain ⟨A1, c1, rfl⟩ := Kd.R_slice hR1
        rw [← HLL.out] at hR1 ⊢
        have HR1 := Lib.hid hR1
        clear hR1 hb1
        go_wp2_with fail
        refine (tall_any hI.out q t g cap w1 HT1.out).mono ?_
        rintro e w2 ⟨v2, rfl, hR2, hb2⟩
        have HT2 := Lib.hid (HT1.out.below hb2)
        have HB2 := Lib.hid hb2
        obtain ⟨A2, c2, rfl⟩ := Kd.R_slice hR2
        rw [← HLL.out] at hR2 ⊢
        have HR2 := Lib.hid hR2
        clear hR2 hb2
        go_wp2_with fail
        refine (troot_ok q t g cap xs w2 HT2.out).mono ?_
        rintro e w_ ⟨rfl, rfl⟩
        rw [← HRT.out]
        go_wp2_with fail
        refine (tkids_ok q t g cap r xs w2 HT2.out hI.out.nm 0 ⟨1, true, 0⟩ (by rw [HRT.out]; exact hI.out.rootAt)).mono ?_
        rintro e w3 ⟨v3, rfl, hR3, hb3⟩
        have HT3 := Lib.hid (HT2.out.below hb3)
        have HB3 := Lib.hid hb3
        obtain ⟨A3, c3, rfl⟩ := Kd.R_slice hR3
        rw [← HKL.out] at hR3 ⊢
        have HR3 := Lib.hid hR3
        clear hR3 hb3
        go_wp2_with fail
        refine (troot_ok q t g cap xs w3 HT3.out).mono ?_
        rintro e w_ ⟨rfl, rfl⟩
        rw [← HRT.out]
        go_wp2_with fail
        refine (tpath_ok hI.out (z := r) (l := [r]) (by rw [HRT.out]; exact .root) q t g cap w3 HT3.out).mono ?_
        rintro e w4 ⟨v4, rfl, hR4, hb4⟩
        have HT4 := Lib.hid (HT3.out.below hb4)
        have HB4 := Lib.hid hb4
        obtain ⟨A4, c4, rfl⟩ := Kd.R_slice hR4
        rw [show ([r] : List Int).length = 1 from rfl] at hR4 ⊢
        have HR4 := Lib.hid hR4
        clear hR4 hb4
        go_wp2_with fail
        refine (troot_ok q t g cap xs w4 HT4.out).mono ?_
        rintro e w_ ⟨rfl, rfl⟩
        rw [← HRT.out]
        go_wp2_with fail
        refine (tkids_ok q t g cap r xs w4 HT4.out hI.out.nm 0 ⟨1, true, 0⟩ (by rw [HRT.out]; exact hI.out.rootAt)).mono ?_
        rintro e w5 ⟨v5, rfl, hR5, hb5⟩
        have HT5 := Lib.hid (HT4.out.below hb5)
        obtain ⟨A5, c5, rfl⟩ := Kd.R_slice hR5
        rw [← HKL.out] at hR5 ⊢
        have s1 := HB1.out.size
        have s2 := HB2.out.size
        have s3 := HB3.out.size
        have s4 := HB4.out.size
        have s5 := hb5.size
        obtain ⟨S, hS⟩ : ∃ S : Nat → Prop, S = fun m => (wr.heap.size ≤ m ∧ m < w1.heap.size) ∨ (w2.heap.size ≤ m ∧ m < w4.heap.size) := ⟨_, rfl⟩
        have WR1 : Hid (WR S w5 (.slice A1 nL c1) nL) := Lib.hid (by
          have h := RH.wr (S := S) HR1.out (fun m h1 h2 => by rw [hS]; exact .inl ⟨h1, h2⟩)
          rw [← HLL.out] at h
          exact (((h.below HB2.out).below HB3.out).below HB4.out).below hb5)
        have WR3 : Hid (WR S w5 (.slice A3 nK c3) nK) := Lib.hid (by
          have h := RH.wr (S := S) HR3.out (fun m h1 h2 => by rw [hS]; exact .inr ⟨h1, by omega⟩)
          rw [← HKL.out] at h
          exact (h.below HB4.out).below hb5)
        have WR4 : Hid (WR S w5 (.slice A4 1 c4) 1) := Lib.hid (by
          have h := RH.wr (S := S) HR4.out (fun m h1 h2 => by rw [hS]; exact .inr ⟨by omega, h2⟩)
          exact h.below hb5)
        have RB2 : Hid (RB w5 (.slice A2 nL c2) (walkF xs 8 rootH) w1.heap.size w2.heap.size) := Lib.hid ((((RH.rb HR2.out).below HB3.out).below HB4.out).below hb5)
        have RB5 : Hid (RB w5 (.slice A5 nK c5) (kidsF xs r) w4.heap.size w5.heap.size) := Lib.hid (RH.rb hR5)
        have HSS : Hid (∀ m, S m → (wr.heap.size ≤ m ∧ m < w1.heap.size) ∨ (w2.heap.size ≤ m ∧ m < w4.heap.size)) := Lib.hid (fun m h => by rw [hS] at h; exact h)
        have HB5 : Hid (Below w.heap.size w w5) := Lib.hid (below_call (below_call (below_call (below_call (below_call hB.out (Nat.le_refl _) HB1.out) (Nat.le_refl _) HB2.out) (Nat.le_refl _) HB3.out) (Nat.le_refl _) HB4.out) (Nat.le_refl _) hb5)
        have HQS := Lib.hid (show q < wr.heap.size ∧ t < wr.heap.size ∧ g < wr.heap.size from ⟨hT.out.lt, hT.out.nt.lt, hT.out.nt.ltg⟩)
        have HSZ := Lib.hid (show w.heap.size ≤ wr.heap.size ∧ wr.heap.size ≤ w1.heap.size ∧ w1.heap.size ≤ w2.heap.size ∧ w2.heap.size ≤ w3.heap.size ∧ w3.heap.size ≤ w4.heap.size ∧ w4.heap.size ≤ w5.heap.size from ⟨hB.out.size, s1, s2, s3, s4, s5⟩)
        clear hR5 hb5 hS s1 s2 s3 s4 s5 HR1 HR2 HR3 HR4 HT1 HT2 HT3 HT4 hT hB
        go_wp2_with fail
        go_loopw [14] (fun i ww => ∃ j : Nat, j ≤ nL ∧ i = .int .i64 j ∧ Hid (Chg S w5 ww) ∧ Hid (WR S ww (.slice A1 nL c1) nL) ∧ Hid (WR S ww (.slice A3 nK c3) nK) ∧ Hid (WR S ww (.slice A4 1 c4) 1)) (fun i _ => nL - (intOf i).toNat)
        case atStart => exact ⟨0, Nat.zero_le _, rfl, Lib.hid (Chg.refl _ _), WR1, WR3, WR4⟩
        case round =>
          clear WR1 WR3 WR4
          obtain ⟨j, hj, rfl, hC, hW1, hW3, hW4⟩ := hrel
          by_cases hlt : j < nL
          · obtain ⟨gg, x, rfl, hSg, hcx, hfx⟩ := hW1.out.at hlt
            have HC' := Lib.hid (hC.out.setCell ⟨gg, j, none⟩ (.int .i64 99) hSg)
            have HW1' := Lib.hid (hW1.out.store gg j 99)
            have HW3' := Lib.hid (hW3.out.store gg j 99)
            have HW4' := Lib.hid (hW4.out.store gg j 99)
            clear hC hW1 hW3 hW4 hSg
            go_wp2
            go_roundw
            case rel => exact ⟨j + 1, by omega, by go_num, HC', HW1', HW3', HW4'⟩
            case measure => simp [intOf]; omega
          · obtain rfl : nL = j := by omega
            clear hlt hj
            go_wp2_with fail
            go_loopw [15] (fun i ww => ∃ j : Nat, j ≤ nK ∧ i = .int .i64 j ∧ Hid (Chg S w5 ww) ∧ Hid (WR S ww (.slice A1 nL c1) nL) ∧ Hid (WR S ww (.slice A3 nK c3) nK) ∧ Hid (WR S ww (.slice A4 1 c4) 1)) (fun i _ => nK - (intOf i).toNat)
            case atStart => exact ⟨0, Nat.zero_le _, rfl, hC, hW1, hW3, hW4⟩
            case round =>
              clear hC hW1 hW3 hW4
              obtain ⟨j, hj, rfl, hC, hW1, hW3, hW4⟩ := hrel
              by_cases hlt : j < nK
              · obtain ⟨gg, x, rfl, hSg, hcx, hfx⟩ := hW3.out.at hlt
                have HC' := Lib.hid (hC.out.setCell ⟨gg, j, none⟩ (.int .i64 99) hSg)
                have HW1' := Lib.hid (hW1.out.store gg j 99)
                have HW3' := Lib.hid (hW3.out.store gg j 99)
                have HW4' := Lib.hid (hW4.out.store gg j 99)
                clear hC hW1 hW3 hW4 hSg
                go_wp2
                go_roundw
                case rel => exact ⟨j + 1, by omega, by go_num, HC', HW1', HW3', HW4'⟩
                case measure => simp [intOf]; omega
              · obtain rfl : nK = j := by omega
                clear hlt hj
                go_wp2_with fail
                go_loopw [16] (fun i ww => ∃ j : Nat, j ≤ 1 ∧ i = .int .i64 j ∧ Hid (Chg S w5 ww) ∧ Hid (WR S ww (.slice A1 nL c1) nL) ∧ Hid (WR S ww (.slice A3 nK c3) nK) ∧ Hid (WR S ww (.slice A4 1 c4) 1)) (fun i _ => 1 - (intOf i).toNat)
                case atStart => exact ⟨0, Nat.zero_le _, rfl, hC, hW1, hW3, hW4⟩
                case round =>
                  clear hC hW1 hW3 hW4
                  obtain ⟨j, hj, rfl, hC, hW1, hW3, hW4⟩ := hrel
                  by_cases hlt : j < 1
                  · obtain ⟨gg, x, rfl, hSg, hcx, hfx⟩ := hW4.out.at hlt
                    have HC' := Lib.hid (hC.out.setCell ⟨gg, j, none⟩ (.int .i64 99) hSg)
                    have HW1' := Lib.hid (hW1.out.store gg j 99)
                    have HW3' := Lib.hid (hW3.out.store gg j 99)
                    have HW4' := Lib.hid (hW4.out.store gg j 99)
                    clear hC hW1 hW3 hW4 hSg
                    go_wp2
                    go_roundw
                    case rel => exact ⟨j + 1, by omega, by go_num, HC', HW1', HW3', HW4'⟩
                    case measure => simp [intOf]; omega
                  · obtain rfl : j = 1 := by omega
                    clear hlt hj
                    go_wp2_with fail
                    have HT6 := Lib.hid (HT5.out.chg hC.out (fun h => by have := HSS.out _ h; have := HQS.out; have := HSZ.out; omega) (fun h => by have := HSS.out _ h; have := HQS.out; have := HSZ.out; omega) (fun h => by have := HSS.out _ h; have := HQS.out; have := HSZ.out; omega))
                    have RB26 := Lib.hid (RB2.out.chg hC.out (fun m h1 h2 h => by have := HSS.out _ h; have := HSZ.out; omega) (by have := HSZ.out; omega))
                    have RB56 := Lib.hid (RB5.out.chg hC.out (fun m h1 h2 h => by have := HSS.out _ h; have := HSZ.out; omega) (Nat.le_refl _))
                    have HB6 := Lib.hid (HB5.out.trans (hC.out.below HB5.out.size (fun m h => by have := HSS.out _ h; have := HSZ.out; omega)))
                    clear RB2 RB5 hC hW1 hW3 hW4
                    refine (troot_ok q t g cap xs wr HT6.out).mono ?_
                    rintro e w_ ⟨rfl, rfl⟩
                    rw [← HRT.out]
                    go_wp2_with fail
                    refine (tkids_ok q t g cap r xs wr HT6.out hI.out.nm 0 ⟨1, true, 0⟩ (by rw [HRT.out]; exact hI.out.rootAt)).mono ?_
                    rintro e w7 ⟨v7, rfl, hR7, hb7⟩
                    have HT7 := Lib.hid (HT6.out.below hb7)
                    have HB7 := Lib.hid (below_call HB6.out (Nat.le_refl _) hb7)
                    have RB27 := Lib.hid (RB26.out.below hb7)
                    have RB57 := Lib.hid (RB56.out.below hb7)
                    have RB77 := Lib.hid (RH.rb hR7)
                    obtain ⟨A7, c7, rfl⟩ := Kd.R_slice hR7
                    rw [← HKL.out] at RB77 ⊢
                    clear hR7 hb7
                    go_wp2_with fail
                    refine (troot_ok q t g cap xs w7 HT7.out).mono ?_
                    rintro e w_ ⟨rfl, rfl⟩
                    rw [← HRT.out]
                    go_wp2_with fail
                    refine (tpath_ok hI.out (z := r) (l := [r]) (by rw [HRT.out]; exact .root) q t g cap w7 HT7.out).mono ?_
                    rintro e w8 ⟨v8, rfl, hR8, hb8⟩
                    have HT8 := Lib.hid (HT7.out.below hb8)
                    have HB8 := Lib.hid (below_call HB7.out (Nat.le_refl _) hb8)
                    have RB28 := Lib.hid (RB27.out.below hb8)
                    have RB58 := Lib.hid (RB57.out.below hb8)
                    have RB78 := Lib.hid (RB77.out.below hb8)
                    have RB88 := Lib.hid (RH.rb hR8)
                    obtain ⟨A8, c8, rfl⟩ := Kd.R_slice hR8
                    rw [show ([r] : List Int).length = 1 from rfl] at RB88 ⊢
                    clear hR8 hb8
                    obtain ⟨g8, rfl, -⟩ := RB88.out.rd.at (i := 0) (x := r) rfl
                    go_wp2_with fail
                    refine reg29 (xs := xs) (g := g) (t := t) (cap := cap) hI.out HT8 HRT HLL HKL hlL' hkL' RB28 RB58 RB78 RB88 (Lib.hid ?_)
                    intro wd n121 n122 n123 n124 n125 n126 n127 n128 n129 n130 n131 n132 n133 n134 n135 n136 n137 n138 n139 n140 n141 n142 n143 n144 n145 hbd
                    have HBd := Lib.hid (below_call HB8.out (Nat.le_refl _) hbd)
                    clear hbd
                    go_wp2
                    go_ret
                    exact ⟨rfl, HBd.out⟩

      · have d1 : decide ((k : Int) < (n : Int)) = false := decide_eq_false (by omega)
        have d1' : decide (k < n) = false := decide_eq_false hk1
        clear hk1 hlt
        go_wp2_with fail
        refine (tall_any hI.out q t g cap wr hT.out).mono ?_
        rintro e w1 ⟨v1, rfl, hR1, hb1⟩
        have HT1 := Lib.hid (hT.out.below hb1)
        have HB1 := Lib.hid hb1
        obtain ⟨A1, c1, rfl⟩ := Kd.R_slice hR1
        rw [← HLL.out] at hR1 ⊢
        have HR1 := Lib.hid hR1
        clear hR1 hb1
        go_wp2_with fail
        refine (tall_any hI.out q t g cap w1 HT1.out).mono ?_
        rintro e w2 ⟨v2, rfl, hR2, hb2⟩
        have HT2 := Lib.hid (HT1.out.below hb2)
        have HB2 := Lib.hid hb2
        obtain ⟨A2, c2, rfl⟩ := Kd.R_slice hR2
        rw [← HLL.out] at hR2 ⊢
        have HR2 := Lib.hid hR2
        clear hR2 hb2
        go_wp2_with fail
        refine (troot_ok q t g cap xs w2 HT2.out).mono ?_
        rintro e w_ ⟨rfl, rfl⟩
        rw [← HRT.out]
        go_wp2_with fail
        refine (tkids_ok q t g cap r xs w2 HT2.out hI.out.nm 0 ⟨1, true, 0⟩ (by rw [HRT.out]; exact hI.out.rootAt)).mono ?_
        rintro e w3 ⟨v3, rfl, hR3, hb3⟩
        have HT3 := Lib.hid (HT2.out.below hb3)
        have HB3 := Lib.hid hb3
        obtain ⟨A3, c3, rfl⟩ := Kd.R_slice hR3
        rw [← HKL.out] at hR3 ⊢
        have HR3 := Lib.hid hR3
        clear hR3 hb3
        go_wp2_with fail
        refine (troot_ok q t g cap xs w3 HT3.out).mono ?_
        rintro e w_ ⟨rfl, rfl⟩
        rw [← HRT.out]
        go_wp2_with fail
        refine (tpath_ok hI.out (z := r) (l := [r]) (by rw [HRT.out]; exact .root) q t g cap w3 HT3.out).mono ?_
        rintro e w4 ⟨v4, rfl, hR4, hb4⟩
        have HT4 := Lib.hid (HT3.out.below hb4)
        have HB4 := Lib.hid hb4
        obtain ⟨A4, c4, rfl⟩ := Kd.R_slice hR4
        rw [show ([r] : List Int).length = 1 from rfl] at hR4 ⊢
        have HR4 := Lib.hid hR4
        clear hR4 hb4
        go_wp2_with fail
        refine (troot_ok q t g cap xs w4 HT4.out).mono ?_
        rintro e w_ ⟨rfl, rfl⟩
        rw [← HRT.out]
        go_wp2_with fail
        refine (tkids_ok q t g cap r xs w4 HT4.out hI.out.nm 0 ⟨1, true, 0⟩ (by rw [HRT.out]; exact hI.out.rootAt)).mono ?_
        rintro e w5 ⟨v5, rfl, hR5, hb5⟩
        have HT5 := Lib.hid (HT4.out.below hb5)
        obtain ⟨A5, c5, rfl⟩ := Kd.R_slice hR5
        rw [← HKL.out] at hR5 ⊢
        have s1 := HB1.out.size
        have s2 := HB2.out.size
        have s3 := HB3.out.size
        have s4 := HB4.out.size
        have s5 := hb5.size
        obtain ⟨S, hS⟩ : ∃ S : Nat → Prop, S = fun m => (wr.heap.size ≤ m ∧ m < w1.heap.size) ∨ (w2.heap.size ≤ m ∧ m < w4.heap.size) := ⟨_, rfl⟩
        have WR1 : Hid (WR S w5 (.slice A1 nL c1) nL) := Lib.hid (by
          have h := RH.wr (S := S) HR1.out (fun m h1 h2 => by rw [hS]; exact .inl ⟨h1, h2⟩)
          rw [← HLL.out] at h
          exact (((h.below HB2.out).below HB3.out).below HB4.out).below hb5)
        have WR3 : Hid (WR S w5 (.slice A3 nK c3) nK) := Lib.hid (by
          have h := RH.wr (S := S) HR3.out (fun m h1 h2 => by rw [hS]; exact .inr ⟨h1, by omega⟩)
          rw [← HKL.out] at h
          exact (h.below HB4.out).below hb5)
        have WR4 : Hid (WR S w5 (.slice A4 1 c4) 1) := Lib.hid (by
          have h := RH.wr (S := S) HR4.out (fun m h1 h2 => by rw [hS]; exact .inr ⟨by omega, h2⟩)
          exact h.below hb5)
        have RB2 : Hid (RB w5 (.slice A2 nL c2) (walkF xs 8 rootH) w1.heap.size w2.heap.size) := Lib.hid ((((RH.rb HR2.out).below HB3.out).below HB4.out).below hb5)
        have RB5 : Hid (RB w5 (.slice A5 nK c5) (kidsF xs r) w4.heap.size w5.heap.size) := Lib.hid (RH.rb hR5)
        have HSS : Hid (∀ m, S m → (wr.heap.size ≤ m ∧ m < w1.heap.size) ∨ (w2.heap.size ≤ m ∧ m < w4.heap.size)) := Lib.hid (fun m h => by rw [hS] at h; exact h)
        have HB5 : Hid (Below w.heap.size w w5) := Lib.hid (below_call (below_call (below_call (below_call (below_call hB.out (Nat.le_refl _) HB1.out) (Nat.le_refl _) HB2.out) (Nat.le_refl _) HB3.out) (Nat.le_refl _) HB4.out) (Nat.le_refl _) hb5)
        have HQS := Lib.hid (show q < wr.heap.size ∧ t < wr.heap.size ∧ g < wr.heap.size from ⟨hT.out.lt, hT.out.nt.lt, hT.out.nt.ltg⟩)
        have HSZ := Lib.hid (show w.heap.size ≤ wr.heap.size ∧ wr.heap.size ≤ w1.heap.size ∧ w1.heap.size ≤ w2.heap.size ∧ w2.heap.size ≤ w3.heap.size ∧ w3.heap.size ≤ w4.heap.size ∧ w4.heap.size ≤ w5.heap.size from ⟨hB.out.size, s1, s2, s3, s4, s5⟩)
        clear hR5 hb5 hS s1 s2 s3 s4 s5 HR1 HR2 HR3 HR4 HT1 HT2 HT3 HT4 hT hB
        go_wp2_with fail
        go_loopw [14] (fun i ww => ∃ j : Nat, j ≤ nL ∧ i = .int .i64 j ∧ Hid (Chg S w5 ww) ∧ Hid (WR S ww (.slice A1 nL c1) nL) ∧ Hid (WR S ww (.slice A3 nK c3) nK) ∧ Hid (WR S ww (.slice A4 1 c4) 1)) (fun i _ => nL - (intOf i).toNat)
        case atStart => exact ⟨0, Nat.zero_le _, rfl, Lib.hid (Chg.refl _ _), WR1, WR3, WR4⟩
        case round =>
          clear WR1 WR3 WR4
          obtain ⟨j, hj, rfl, hC, hW1, hW3, hW4⟩ := hrel
          by_cases hlt : j < nL
          · obtain ⟨gg, x, rfl, hSg, hcx, hfx⟩ := hW1.out.at hlt
            have HC' := Lib.hid (hC.out.setCell ⟨gg, j, none⟩ (.int .i64 99) hSg)
            have HW1' := Lib.hid (hW1.out.store gg j 99)
            have HW3' := Lib.hid (hW3.out.store gg j 99)
            have HW4' := Lib.hid (hW4.out.store gg j 99)
            clear hC hW1 hW3 hW4 hSg
            go_wp2
            go_roundw
            case rel => exact ⟨j + 1, by omega, by go_num, HC', HW1', HW3', HW4'⟩
            case measure => simp [intOf]; omega
          · obtain rfl : nL = j := by omega
            clear hlt hj
            go_wp2_with fail
            go_loopw [15] (fun i ww => ∃ j : Nat, j ≤ nK ∧ i = .int .i64 j ∧ Hid (Chg S w5 ww) ∧ Hid (WR S ww (.slice A1 nL c1) nL) ∧ Hid (WR S ww (.slice A3 nK c3) nK) ∧ Hid (WR S ww (.slice A4 1 c4) 1)) (fun i _ => nK - (intOf i).toNat)
            case atStart => exact ⟨0, Nat.zero_le _, rfl, hC, hW1, hW3, hW4⟩
            case round =>
              clear hC hW1 hW3 hW4
              obtain ⟨j, hj, rfl, hC, hW1, hW3, hW4⟩ := hrel
              by_cases hlt : j < nK
              · obtain ⟨gg, x, rfl, hSg, hcx, hfx⟩ := hW3.out.at hlt
                have HC' := Lib.hid (hC.out.setCell ⟨gg, j, none⟩ (.int .i64 99) hSg)
                have HW1' := Lib.hid (hW1.out.store gg j 99)
                have HW3' := Lib.hid (hW3.out.store gg j 99)
                have HW4' := Lib.hid (hW4.out.store gg j 99)
                clear hC hW1 hW3 hW4 hSg
                go_wp2
                go_roundw
                case rel => exact ⟨j + 1, by omega, by go_num, HC', HW1', HW3', HW4'⟩
                case measure => simp [intOf]; omega
              · obtain rfl : nK = j := by omega
                clear hlt hj
                go_wp2_with fail
                go_loopw [16] (fun i ww => ∃ j : Nat, j ≤ 1 ∧ i = .int .i64 j ∧ Hid (Chg S w5 ww) ∧ Hid (WR S ww (.slice A1 nL c1) nL) ∧ Hid (WR S ww (.slice A3 nK c3) nK) ∧ Hid (WR S ww (.slice A4 1 c4) 1)) (fun i _ => 1 - (intOf i).toNat)
                case atStart => exact ⟨0, Nat.zero_le _, rfl, hC, hW1, hW3, hW4⟩
                case round =>
                  clear hC hW1 hW3 hW4
                  obtain ⟨j, hj, rfl, hC, hW1, hW3, hW4⟩ := hrel
                  by_cases hlt : j < 1
                  · obtain ⟨gg, x, rfl, hSg, hcx, hfx⟩ := hW4.out.at hlt
                    have HC' := Lib.hid (hC.out.setCell ⟨gg, j, none⟩ (.int .i64 99) hSg)
                    have HW1' := Lib.hid (hW1.out.store gg j 99)
                    have HW3' := Lib.hid (hW3.out.store gg j 99)
                    have HW4' := Lib.hid (hW4.out.store gg j 99)
                    clear hC hW1 hW3 hW4 hSg
                    go_wp2
                    go_roundw
                    case rel => exact ⟨j + 1, by omega, by go_num, HC', HW1', HW3', HW4'⟩
                    case measure => simp [intOf]; omega
                  · obtain rfl : j = 1 := by omega
                    clear hlt hj
                    go_wp2_with fail
                    have HT6 := Lib.hid (HT5.out.chg hC.out (fun h => by have := HSS.out _ h; have := HQS.out; have := HSZ.out; omega) (fun h => by have := HSS.out _ h; have := HQS.out; have := HSZ.out; omega) (fun h => by have := HSS.out _ h; have := HQS.out; have := HSZ.out; omega))
                    have RB26 := Lib.hid (RB2.out.chg hC.out (fun m h1 h2 h => by have := HSS.out _ h; have := HSZ.out; omega) (by have := HSZ.out; omega))
                    have RB56 := Lib.hid (RB5.out.chg hC.out (fun m h1 h2 h => by have := HSS.out _ h; have := HSZ.out; omega) (Nat.le_refl _))
                    have HB6 := Lib.hid (HB5.out.trans (hC.out.below HB5.out.size (fun m h => by have := HSS.out _ h; have := HSZ.out; omega)))
                    clear RB2 RB5 hC hW1 hW3 hW4
                    refine (troot_ok q t g cap xs wr HT6.out).mono ?_
                    rintro e w_ ⟨rfl, rfl⟩
                    rw [← HRT.out]
                    go_wp2_with fail
                    refine (tkids_ok q t g cap r xs wr HT6.out hI.out.nm 0 ⟨1, true, 0⟩ (by rw [HRT.out]; exact hI.out.rootAt)).mono ?_
                    rintro e w7 ⟨v7, rfl, hR7, hb7⟩
                    have HT7 := Lib.hid (HT6.out.below hb7)
                    have HB7 := Lib.hid (below_call HB6.out (Nat.le_refl _) hb7)
                    have RB27 := Lib.hid (RB26.out.below hb7)
                    have RB57 := Lib.hid (RB56.out.below hb7)
                    have RB77 := Lib.hid (RH.rb hR7)
                    obtain ⟨A7, c7, rfl⟩ := Kd.R_slice hR7
                    rw [← HKL.out] at RB77 ⊢
                    clear hR7 hb7
                    go_wp2_with fail
                    refine (troot_ok q t g cap xs w7 HT7.out).mono ?_
                    rintro e w_ ⟨rfl, rfl⟩
                    rw [← HRT.out]
                    go_wp2_with fail
                    refine (tpath_ok hI.out (z := r) (l := [r]) (by rw [HRT.out]; exact .root) q t g cap w7 HT7.out).mono ?_
                    rintro e w8 ⟨v8, rfl, hR8, hb8⟩
                    have HT8 := Lib.hid (HT7.out.below hb8)
                    have HB8 := Lib.hid (below_call HB7.out (Nat.le_refl _) hb8)
                    have RB28 := Lib.hid (RB27.out.below hb8)
                    have RB58 := Lib.hid (RB57.out.below hb8)
                    have RB78 := Lib.hid (RB77.out.below hb8)
                    have RB88 := Lib.hid (RH.rb hR8)
                    obtain ⟨A8, c8, rfl⟩ := Kd.R_slice hR8
                    rw [show ([r] : List Int).length = 1 from rfl] at RB88 ⊢
                    clear hR8 hb8
                    obtain ⟨g8, rfl, -⟩ := RB88.out.rd.at (i := 0) (x := r) rfl
                    go_wp2_with fail
                    refine reg29 (xs := xs) (g := g) (t := t) (cap := cap) hI.out HT8 HRT HLL HKL hlL' hkL' RB28 RB58 RB78 RB88 (Lib.hid ?_)
                    intro wd n121 n122 n123 n124 n125 n126 n127 n128 n129 n130 n131 n132 n133 n134 n135 n136 n137 n138 n139 n140 n141 n142 n143 n144 n145 hbd
                    have HBd := Lib.hid (below_call HB8.out (Nat.le_refl _) hbd)
                    clear hbd
                    go_wp2
                    go_ret
                    exact ⟨rfl, HBd.out⟩

theorem town_rd {a : Option Addr} {n c : Nat} {w : World} (h0 : Rd22 w [.slice a n c]) :
    Calls Try.prog 3 #[.slice a n c] w fun e w' => e = .returned (.bool true) ∧ Below w.heap.size w w' := by
  obtain ⟨h, -, hn⟩ := op3_of_rd h0
  exact town_ok a n c w h hn

end Go.Proofs.Ytgjlkplieoajlaa
