/- The law LedgerAdds, by contract. -/
import Derived.Test.YtahaclglkbgpcaaDoorLg2
import Derived.Test.YtahaclglkbgpcaaDoorLg7
import Derived.Test.YtahaclglkbgpcaaDoorNum15
import Derived.Test.YtahaclglkbgpcaaDoorEqA
set_option linter.unusedVariables false
set_option linter.unusedSimpArgs false
namespace Go.Proofs.YtahaclglkbgpcaaDoor
open Go.RowKit
set_option maxRecDepth 100000
attribute [local go_sem high] eqAcc

set_option maxHeartbeats 2000000 in
theorem adds_core (a0 a1 a2 a3 a4 a5 b0 b1 b2 b3 b4 b5 r0 r1 r2 r3 r4 r5 er : Int) (ev : Value) (w : World) (hL : Laid w)
    (hA : ∀ W, Calls Tryd.prog 6 #[acc a0 a1 a2 a3 a4 a5, acc b0 b1 b2 b3 b4 b5] W fun e w' => e = .returned (.tuple #[acc r0 r1 r2 r3 r4 r5, ev]) ∧ Below W.heap.size W w')
    (hR : ∀ W, Calls Tryd.prog 7 #[acc a0 a1 a2 a3 a4 a5, acc b0 b1 b2 b3 b4 b5] W fun e w' => e = .returned (.tuple #[acc r0 r1 r2 r3 r4 r5, .int .i64 er]) ∧ Below W.heap.size W w')
    (hN : ∀ W, Laid W → Calls Tryd.prog 8 #[ev] W fun e w' => e = .returned (.int .i64 er) ∧ Below W.heap.size W w') :
    Calls Tryd.prog 3 #[acc a0 a1 a2 a3 a4 a5, acc b0 b1 b2 b3 b4 b5] w fun e w' => e = .returned (.bool true) ∧ Below w.heap.size w w' := by
  have HA := Lib.hid hA
  have HR := Lib.hid hR
  have HN := Lib.hid hN
  have HL := Lib.hid hL
  clear hA hR hN hL
  go_enter Tryd.func3, Tryd.ntmps3
  go_wp2_with fail
  obtain ⟨W0, hW0⟩ : ∃ y, y = (w.alloc (.cells #[.int .i64 a0, .int .i64 a1, .int .i64 a2, .int .i64 a3, .int .i64 a4, .int .i64 a5] 23)).alloc (.cells #[.int .i64 b0, .int .i64 b1, .int .i64 b2, .int .i64 b3, .int .i64 b4, .int .i64 b5] 23) := ⟨_, rfl⟩
  have hB0 : Below w.heap.size w W0 := by rw [hW0]; exact ((Below.refl _ w).alloc (Nat.le_refl _) _).alloc (by simp) _
  have hs0 : W0.heap.size = w.heap.size + 2 := by rw [hW0]; simp
  have y0 : W0.cell? ⟨w.heap.size, 0, none⟩ = some (.int .i64 a0) := by rw [hW0]; simp
  have z0 : W0.cell? ⟨w.heap.size + 1, 0, none⟩ = some (.int .i64 b0) := by rw [hW0]; simp
  have y1 : W0.cell? ⟨w.heap.size, 1, none⟩ = some (.int .i64 a1) := by rw [hW0]; simp
  have z1 : W0.cell? ⟨w.heap.size + 1, 1, none⟩ = some (.int .i64 b1) := by rw [hW0]; simp
  have y2 : W0.cell? ⟨w.heap.size, 2, none⟩ = some (.int .i64 a2) := by rw [hW0]; simp
  have z2 : W0.cell? ⟨w.heap.size + 1, 2, none⟩ = some (.int .i64 b2) := by rw [hW0]; simp
  have y3 : W0.cell? ⟨w.heap.size, 3, none⟩ = some (.int .i64 a3) := by rw [hW0]; simp
  have z3 : W0.cell? ⟨w.heap.size + 1, 3, none⟩ = some (.int .i64 b3) := by rw [hW0]; simp
  have y4 : W0.cell? ⟨w.heap.size, 4, none⟩ = some (.int .i64 a4) := by rw [hW0]; simp
  have z4 : W0.cell? ⟨w.heap.size + 1, 4, none⟩ = some (.int .i64 b4) := by rw [hW0]; simp
  have y5 : W0.cell? ⟨w.heap.size, 5, none⟩ = some (.int .i64 a5) := by rw [hW0]; simp
  have z5 : W0.cell? ⟨w.heap.size + 1, 5, none⟩ = some (.int .i64 b5) := by rw [hW0]; simp
  rw [← hW0]
  refine (HA.out W0).mono ?_
  rintro e w1 ⟨rfl, hb⟩
  replace y0 := keep hb y0
  replace z0 := keep hb z0
  replace y1 := keep hb y1
  replace z1 := keep hb z1
  replace y2 := keep hb y2
  replace z2 := keep hb z2
  replace y3 := keep hb y3
  replace z3 := keep hb z3
  replace y4 := keep hb y4
  replace z4 := keep hb z4
  replace y5 := keep hb y5
  replace z5 := keep hb z5
  have hs1 := hb.size
  have hq4 : w.heap.size < w1.heap.size := by omega
  have hq5 : w.heap.size + 1 < w1.heap.size := by omega
  have HB1 := Lib.hid (below_call hB0 (Nat.le_refl _) hb)
  obtain ⟨c2, hc2⟩ : ∃ y, y = w.heap.size := ⟨_, rfl⟩
  simp only [← hc2] at y0 z0 y1 z1 y2 z2 y3 z3 y4 z4 y5 z5 hq4 hq5 ⊢
  clear hb hB0 hW0 hc2 hs0 hs1
  go_wp2_with fail
  obtain ⟨c5, hc5⟩ : ∃ y, y = w1.heap.size := ⟨_, rfl⟩
  obtain ⟨W1, hW1⟩ : ∃ y, y = w1.alloc (.cells #[.int .i64 r0, .int .i64 r1, .int .i64 r2, .int .i64 r3, .int .i64 r4, .int .i64 r5] 23) := ⟨_, rfl⟩
  have hba : Below w1.heap.size w1 W1 := by rw [hW1]; exact (Below.refl _ _).alloc (Nat.le_refl _) _
  have x0 : W1.cell? ⟨c5, 0, none⟩ = some (.int .i64 r0) := by rw [hW1, hc5]; simp
  have x1 : W1.cell? ⟨c5, 1, none⟩ = some (.int .i64 r1) := by rw [hW1, hc5]; simp
  have x2 : W1.cell? ⟨c5, 2, none⟩ = some (.int .i64 r2) := by rw [hW1, hc5]; simp
  have x3 : W1.cell? ⟨c5, 3, none⟩ = some (.int .i64 r3) := by rw [hW1, hc5]; simp
  have x4 : W1.cell? ⟨c5, 4, none⟩ = some (.int .i64 r4) := by rw [hW1, hc5]; simp
  have x5 : W1.cell? ⟨c5, 5, none⟩ = some (.int .i64 r5) := by rw [hW1, hc5]; simp
  have hlt : c5 < W1.heap.size := by rw [hW1, hc5]; simp
  have HB2 := Lib.hid (below_call HB1.out (Nat.le_refl _) hba)
  rw [← hW1, ← hc5]
  clear hW1 hc5 hba y0 z0 y1 z1 y2 z2 y3 z3 y4 z4 y5 z5
  refine (HR.out W1).mono ?_
  rintro e w2 ⟨rfl, hb2⟩
  replace x0 := keep hb2 x0
  replace x1 := keep hb2 x1
  replace x2 := keep hb2 x2
  replace x3 := keep hb2 x3
  replace x4 := keep hb2 x4
  replace x5 := keep hb2 x5
  have hlt2 : c5 < w2.heap.size := Nat.lt_of_lt_of_le hlt hb2.size
  have HB3 := Lib.hid (below_call HB2.out (Nat.le_refl _) hb2)
  clear hb2
  go_wp2_with fail
  have hba : Below w2.heap.size w2 (w2.alloc (.cells #[.int .i64 r0, .int .i64 r1, .int .i64 r2, .int .i64 r3, .int .i64 r4, .int .i64 r5] 23)) := (Below.refl _ _).alloc (Nat.le_refl _) _
  have HB4 := Lib.hid (below_call HB3.out (Nat.le_refl _) hba)
  clear hba
  refine (HN.out _ (HL.out.below HB4.out)).mono ?_
  rintro e w3 ⟨rfl, hb3⟩
  have HB5 := Lib.hid (below_call HB4.out (Nat.le_refl _) hb3)
  clear hb3
  go_wp2_with fail
  refine (lsure_ok w3).mono ?_
  rintro e w4 ⟨rfl, hb4⟩
  have HB6 := Lib.hid (below_call HB5.out (Nat.le_refl _) hb4)
  clear hb4
  go_wp2
  go_ret
  exact ⟨rfl, HB6.out⟩

theorem adds_ok (a0 a1 a2 a3 a4 a5 b0 b1 b2 b3 b4 b5 : Int) (w : World) (hL : Laid w) :
    Calls Tryd.prog 3 #[acc a0 a1 a2 a3 a4 a5, acc b0 b1 b2 b3 b4 b5] w fun e w' => e = .returned (.bool true) ∧ Below w.heap.size w w' := by
  by_cases ha : AV a0 a1 a2 a3 a4 a5
  · by_cases hb : AV b0 b1 b2 b3 b4 b5
    · by_cases hs : AV (a0 + b0) (a1 + b1) (a2 + b2) (a3 + b3) (a4 + b4) (a5 + b5)
      · exact adds_core _ _ _ _ _ _ _ _ _ _ _ _ _ _ _ _ _ _ 0 _ w hL (fun W => add_ok _ _ _ _ _ _ _ _ _ _ _ _ W ha hb hs) (fun W => radd_ok _ _ _ _ _ _ _ _ _ _ _ _ W ha hb hs) (fun W _ => num15_nil W)
      · exact adds_core _ _ _ _ _ _ _ _ _ _ _ _ _ _ _ _ _ _ 10 _ w hL (fun W => add_over _ _ _ _ _ _ _ _ _ _ _ _ W ha hb hs) (fun W => radd_over _ _ _ _ _ _ _ _ _ _ _ _ W ha hb hs) (fun W h => num15_err 10 W h)
    · exact adds_core _ _ _ _ _ _ _ _ _ _ _ _ _ _ _ _ _ _ 1 _ w hL (fun W => add_badb _ _ _ _ _ _ _ _ _ _ _ _ W ha hb) (fun W => radd_badb _ _ _ _ _ _ _ _ _ _ _ _ W ha hb) (fun W h => num15_err 1 W h)
  · exact adds_core _ _ _ _ _ _ _ _ _ _ _ _ _ _ _ _ _ _ 1 _ w hL (fun W => add_bada _ _ _ _ _ _ _ _ _ _ _ _ W ha) (fun W => radd_bada _ _ _ _ _ _ _ _ _ _ _ _ W ha) (fun W h => num15_err 1 W h)
end Go.Proofs.YtahaclglkbgpcaaDoor
