/- Same of queues of two limits, by contract. -/
import Derived.Test.YtahaclglkbgpcaaFqA3
set_option linter.unusedVariables false
set_option linter.unusedSimpArgs false
namespace Go.Proofs.Ytahaclglkbgpcaa
open Go.RowKit Go.Shelf
set_option maxRecDepth 100000

set_option maxHeartbeats 400000 in
theorem same_lim {U V : Nat → Prop} (p r : Option Addr) (lim1 lim2 : Nat) (zs ys : List Int) (w : World) (h1 : QO U w p lim1 zs) (h2 : QO V w r lim2 ys) (hne : lim1 ≠ lim2) :
    Calls Try.prog 17 #[.pointer p, .pointer r] w fun e w' => e = .returned (.bool false) ∧ Below w.heap.size w w' := by
  have H1 := Lib.hid h1
  have H2 := Lib.hid h2
  clear h1 h2
  have t : ((lim1 : Int) == (lim2 : Int)) = false := by
    have : (lim1 : Int) ≠ lim2 := by omega
    simpa using this
  have t2 : ((lim1 : Int) != (lim2 : Int)) = true := by simp only [bne, t, Bool.not_false]
  go_enter Try.func17, Try.ntmps17
  go_wp2_with fail
  obtain ⟨W0, hW0⟩ : ∃ W0, W0 = (w.alloc (.cells #[.pointer r] 23)).alloc (.cells #[.bool false] 4) := ⟨_, rfl⟩
  rw [← hW0]
  have hs0 : W0.heap.size = w.heap.size + 2 := by rw [hW0]; simp
  have hB0 : Below w.heap.size w W0 := by rw [hW0]; exact ((Below.refl _ w).alloc (Nat.le_refl _) _).alloc (by simp) _
  have hB0' : Below w.heap.size w W0 := hB0
  have c3 : W0.cell? ⟨w.heap.size, 0, none⟩ = some (.pointer r) := by rw [hW0, World.cell?_alloc_lt _ _ _ (by simp)]; simp
  have c4 : W0.cell? ⟨w.heap.size + 1, 0, none⟩ = some (.bool false) := by rw [hW0, World.cell?_alloc_at _ _ _ _ (by simp)]; rfl
  have f4 : W0.frozen? ⟨w.heap.size + 1, 0, none⟩ = false := by rw [hW0]; simp only [frozen?_alloc_cells]; simp [World.frozen?]
  have HA1 := Lib.hid (H1.out.below hB0)
  have HA2 := Lib.hid (H2.out.below hB0)
  clear hW0
  have L1 : ∀ n, Calls Try.prog 18 #[.pointer p] (W0.drewN n) fun e w' => e = .returned (.int .i64 (lim1 : Int)) ∧ ∃ m, w' = W0.drewN m := fun n => (limit_o (W0.drewN n) (HA1.out.heap rfl)).mono fun e w' ⟨h1, h2⟩ => ⟨h1, n, h2.symm⟩
  have L2 : ∀ n, Calls Try.prog 18 #[.pointer r] (W0.drewN n) fun e w' => e = .returned (.int .i64 (lim2 : Int)) ∧ ∃ m, w' = W0.drewN m := fun n => (limit_o (W0.drewN n) (HA2.out.heap rfl)).mono fun e w' ⟨h1, h2⟩ => ⟨h1, n, h2.symm⟩
  have HL1 := Lib.hid L1; have HL2 := Lib.hid L2
  clear L1 L2
  go_quiet (first
    | (go_at_call 18; with_reducible exact HL1.out _)
    | (go_at_call 18; with_reducible exact HL2.out _))
  obtain ⟨W1, hW1⟩ : ∃ x, x = W0.drewN nq := ⟨_, rfl⟩
  rw [← hW1]
  replace c4 : W1.cell? ⟨w.heap.size + 1, 0, none⟩ = some (.bool false) := by rw [hW1]; exact c4
  replace f4 : W1.frozen? ⟨w.heap.size + 1, 0, none⟩ = false := by rw [hW1]; exact f4
  have hB1 : Below w.heap.size w W1 := by rw [hW1]; exact below_drewN' hB0' _
  clear hW1 hB0 hB0' hs0 HA1 HA2 HL1 HL2
  go_wp2_with fail
  refine bodyPost_ret (v := .bool false) (by simp [results, Try.results17, go_sem, c4]) rfl ⟨rfl, hB1.setCell (p := ⟨w.heap.size + 1, 0, none⟩) (by simp) _⟩
end Go.Proofs.Ytahaclglkbgpcaa
