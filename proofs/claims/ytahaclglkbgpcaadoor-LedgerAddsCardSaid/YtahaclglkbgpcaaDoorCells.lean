/- Small words on cells behind stores. -/
import Derived.Test.YtahaclglkbgpcaaDoorBase
set_option linter.unusedVariables false
namespace Go.Proofs.YtahaclglkbgpcaaDoor
open Go.RowKit

theorem cso {w : World} {a b : Addr} {u v : Value} (h : a.block ≠ b.block ∨ a.off ≠ b.off) (k : w.cell? b = some v) : (w.setCell a u).cell? b = some v := by
  rw [World.cell?_setCell_other _ _ _ _ (fun e => by subst e; rcases h with h | h <;> exact h rfl)]; exact k
theorem css {w : World} {a : Addr} {u : Value} (k : (w.cell? a).isSome = true) : (w.setCell a u).cell? a = some u := World.cell?_setCell_same' _ _ _ k
theorem iss {w : World} {a b : Addr} {u : Value} (k : (w.cell? b).isSome = true) : ((w.setCell a u).cell? b).isSome = true := by
  by_cases h : a = b
  · subst h; rw [css k]; rfl
  · rw [World.cell?_setCell_other _ _ _ _ h]; exact k
theorem idn {w : World} {b : Addr} (k : (w.cell? b).isSome = true) (n : Nat) : ((w.drewN n).cell? b).isSome = true := k
theorem cdn {w : World} {b : Addr} {v : Value} (k : w.cell? b = some v) (n : Nat) : (w.drewN n).cell? b = some v := k

theorem frozen_beyond (w : World) (b o : Nat) (h : w.heap.size ≤ b) : w.frozen? ⟨b, o, none⟩ = false := by
  simp [World.frozen?, Array.getElem?_eq_none h]

theorem cdr {w : World} {b : Addr} {v : Value} (k : w.cell? b = some v) : w.drew.cell? b = some v := k
end Go.Proofs.YtahaclglkbgpcaaDoor
