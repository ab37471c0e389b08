/- The law package's num, by contract: nil tells 0, an Errno its number. -/
import Derived.Test.YtahaclglkbgpcaaDoorNum
set_option linter.unusedVariables false
set_option linter.unusedSimpArgs false
namespace Go.Proofs.YtahaclglkbgpcaaDoor
open Go.RowKit

theorem num15_nil (w : World) : Calls Tryd.prog 8 #[.nilIface] w fun e w' => e = .returned (.int .i64 0) ∧ Below w.heap.size w w' := by
  go_enter Tryd.func8, Tryd.ntmps8
  go_wp2
  go_ret
  exact ⟨rfl, (Below.refl _ w).alloc (Nat.le_refl _) _⟩

theorem num15_err (k : Int) (w : World) (hL : Laid w) : Calls Tryd.prog 8 #[.iface 55 (.int .i64 k)] w fun e w' => e = .returned (.int .i64 k) ∧ Below w.heap.size w w' := by
  have h := Lib.hid (as_hit k ⟨w.heap.size, 0, none⟩ (.int .i64 0) (w.alloc (.cells #[.int .i64 0] 55)) (hL.alloc _) (by simp) (by simp))
  clear hL
  go_enter Tryd.func8, Tryd.ntmps8
  go_wp2_with fail
  refine (h.out).mono ?_
  rintro e w' ⟨rfl, w1, hb, rfl⟩
  have hz := hb.size
  simp at hz
  have hc : (w1.setCell ⟨w.heap.size, 0, none⟩ (.int .i64 k)).cell? ⟨w.heap.size, 0, none⟩ = some (.int .i64 k) := by
    have h0 : w1.cell? ⟨w.heap.size, 0, none⟩ = some (.int .i64 0) := by rw [hb.cell (p := ⟨w.heap.size, 0, none⟩) (by simp)]; simp
    exact World.cell?_setCell_same _ _ _ h0
  have HB : Below w.heap.size w (w1.setCell ⟨w.heap.size, 0, none⟩ (.int .i64 k)) := (((Below.refl _ w).alloc (Nat.le_refl _) _).trans (hb.mono (by simp))).setCell (p := ⟨w.heap.size, 0, none⟩) (Nat.le_refl _) _
  generalize w1.setCell ⟨w.heap.size, 0, none⟩ (.int .i64 k) = w2 at hc HB ⊢
  clear hb hz h
  go_wp2
  go_ret
  exact ⟨rfl, HB⟩

end Go.Proofs.YtahaclglkbgpcaaDoor
