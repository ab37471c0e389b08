/- A book of one entry: Of; a range over its map. -/
import Derived.Test.YtahaclglkbgpcaaDoorLg5
import Derived.Laws.IdiomRangeMap
set_option linter.unusedVariables false
set_option linter.unusedSimpArgs false
namespace Go.Proofs.YtahaclglkbgpcaaDoor
open Go.RowKit
set_option maxRecDepth 100000

/-- Block r is an iterator over the map b, which has one entry. -/
def It (W : World) (r b n : Nat) (seen : Array Nat) (v : Value) : Prop := W.heap[r]? = some (.mapIter (some b) (n + 1) seen (n + 1)) ∧ W.heap[b]? = some (.map #[{ key := .int .i64 1, val := v, born := n }] (n + 1))
def itPut (W : World) (r b n : Nat) : World := { W with heap := W.heap.setIfInBounds r (.mapIter (some b) (n + 1) #[n] (n + 1)) }

theorem range1 {W : World} {b n : Nat} {v : Value} (hb : W.heap[b]? = some (.map #[{ key := .int .i64 1, val := v, born := n }] (n + 1))) :
    Sem.run Tryd.prog (Instr.range 62 (.map (some b))) W = .ok (.pointer (some ⟨W.heap.size, 0, none⟩)) (W.alloc (.mapIter (some b) (n + 1) #[] (n + 1))) := by
  simp [Instr.range, run_underlying Tryd.underlying62, MapKept.run_getObj_map hb]
theorem next1 {W : World} {r b n : Nat} {v : Value} (h : It W r b n #[] v) (ty : TypeId) :
    Sem.run Tryd.prog (Instr.next (.pointer (some ⟨r, 0, none⟩)) false ty) W = .ok (.tuple #[.bool true, .int .i64 1, v]) (itPut W r b n) := by
  obtain ⟨hr, hb⟩ := h
  simp [Instr.next, getObj, Sem.run_bind, Sem.run, hr, hb, Result.andThen, choose, Question.forced, setObj, itPut, show ¬ (n + 1 ≤ n) by omega]
theorem next2 {W : World} {r b n : Nat} {v : Value} (h : It W r b n #[n] v) (ty : TypeId) :
    Sem.run Tryd.prog (Instr.next (.pointer (some ⟨r, 0, none⟩)) false ty) W = .ok (.tuple #[.bool false]) W := by
  obtain ⟨hr, hb⟩ := h
  simp [Instr.next, getObj, Sem.run_bind, Sem.run, hr, hb, Result.andThen, choose, Question.forced, setObj, itPut]
theorem entry1 {W : World} {r b n : Nat} {v : Value} (h : It W r b n #[n] v) :
    Sem.run Tryd.prog (Instr.entry (.pointer (some ⟨r, 0, none⟩))) W = .ok (.tuple #[.int .i64 1, v]) W := by
  obtain ⟨hr, hb⟩ := h
  simp [Instr.entry, getObj, Sem.run_bind, Sem.run, hr, hb, Result.andThen]

set_option maxHeartbeats 2000000 in
theorem lof_ok (k b : Nat) (g o : Int) (w : World) (h : Bk w k b g o) :
    Calls Tryd.prog 13 #[.pointer (some ⟨k, 0, none⟩), .int .i64 1] w fun e w' => e = .returned (.tuple #[.agg #[.int .i64 g, .int .i64 o, .int .i64 0, .int .i64 0, .int .i64 0, .int .i64 0], .agg #[.int .i64 0, .int .i64 0, .int .i64 0, .int .i64 0, .int .i64 0, .int .i64 0], .nilIface]) ∧ Below w.heap.size w w' := by
  have HH := Lib.hid h
  clear h
  go_enter Tryd.func13, Tryd.ntmps13
  go_wp2_with fail
  obtain ⟨W0, hW0⟩ : ∃ y, y = (w.alloc (.cells #[.int .i64 0, .int .i64 0, .int .i64 0, .int .i64 0, .int .i64 0, .int .i64 0] 23)).alloc (.cells #[.int .i64 0, .int .i64 0, .int .i64 0, .int .i64 0, .int .i64 0, .int .i64 0] 23) := ⟨_, rfl⟩
  have hB0 : Below w.heap.size w W0 := by rw [hW0]; exact ((Below.refl _ w).alloc (Nat.le_refl _) _).alloc (by simp) _
  have hs0 : W0.heap.size = w.heap.size + 2 := by rw [hW0]; simp
  have y0 : W0.cell? ⟨w.heap.size, 0, none⟩ = some (.int .i64 0) := by rw [hW0]; simp
  have z0 : W0.cell? ⟨w.heap.size + 1, 0, none⟩ = some (.int .i64 0) := by rw [hW0]; simp
  have y1 : W0.cell? ⟨w.heap.size, 1, none⟩ = some (.int .i64 0) := by rw [hW0]; simp
  have z1 : W0.cell? ⟨w.heap.size + 1, 1, none⟩ = some (.int .i64 0) := by rw [hW0]; simp
  have y2 : W0.cell? ⟨w.heap.size, 2, none⟩ = some (.int .i64 0) := by rw [hW0]; simp
  have z2 : W0.cell? ⟨w.heap.size + 1, 2, none⟩ = some (.int .i64 0) := by rw [hW0]; simp
  have y3 : W0.cell? ⟨w.heap.size, 3, none⟩ = some (.int .i64 0) := by rw [hW0]; simp
  have z3 : W0.cell? ⟨w.heap.size + 1, 3, none⟩ = some (.int .i64 0) := by rw [hW0]; simp
  have y4 : W0.cell? ⟨w.heap.size, 4, none⟩ = some (.int .i64 0) := by rw [hW0]; simp
  have z4 : W0.cell? ⟨w.heap.size + 1, 4, none⟩ = some (.int .i64 0) := by rw [hW0]; simp
  have y5 : W0.cell? ⟨w.heap.size, 5, none⟩ = some (.int .i64 0) := by rw [hW0]; simp
  have z5 : W0.cell? ⟨w.heap.size + 1, 5, none⟩ = some (.int .i64 0) := by rw [hW0]; simp
  have f0 : W0.frozen? ⟨w.heap.size, 0, none⟩ = false := by rw [hW0]; simp only [frozen?_alloc_cells]; simp [World.frozen?]
  have e0 : W0.frozen? ⟨w.heap.size + 1, 0, none⟩ = false := by rw [hW0]; simp only [frozen?_alloc_cells]; simp [World.frozen?]
  have f1 : W0.frozen? ⟨w.heap.size, 1, none⟩ = false := by rw [hW0]; simp only [frozen?_alloc_cells]; simp [World.frozen?]
  have e1 : W0.frozen? ⟨w.heap.size + 1, 1, none⟩ = false := by rw [hW0]; simp only [frozen?_alloc_cells]; simp [World.frozen?]
  have f2 : W0.frozen? ⟨w.heap.size, 2, none⟩ = false := by rw [hW0]; simp only [frozen?_alloc_cells]; simp [World.frozen?]
  have e2 : W0.frozen? ⟨w.heap.size + 1, 2, none⟩ = false := by rw [hW0]; simp only [frozen?_alloc_cells]; simp [World.frozen?]
  have f3 : W0.frozen? ⟨w.heap.size, 3, none⟩ = false := by rw [hW0]; simp only [frozen?_alloc_cells]; simp [World.frozen?]
  have e3 : W0.frozen? ⟨w.heap.size + 1, 3, none⟩ = false := by rw [hW0]; simp only [frozen?_alloc_cells]; simp [World.frozen?]
  have f4 : W0.frozen? ⟨w.heap.size, 4, none⟩ = false := by rw [hW0]; simp only [frozen?_alloc_cells]; simp [World.frozen?]
  have e4 : W0.frozen? ⟨w.heap.size + 1, 4, none⟩ = false := by rw [hW0]; simp only [frozen?_alloc_cells]; simp [World.frozen?]
  have f5 : W0.frozen? ⟨w.heap.size, 5, none⟩ = false := by rw [hW0]; simp only [frozen?_alloc_cells]; simp [World.frozen?]
  have e5 : W0.frozen? ⟨w.heap.size + 1, 5, none⟩ = false := by rw [hW0]; simp only [frozen?_alloc_cells]; simp [World.frozen?]
  rw [← hW0]
  refine (lfind_ok k b g o W0 (HH.out.below hB0)).mono ?_
  rintro e w1 ⟨rfl, hb⟩
  replace y0 := keep hb y0
  replace z0 := keep hb z0
  replace y1 := keep hb y1
  replace z1 := keep hb z1
  replace y2 := keep hb y2
  replace z2 := keep hb z2
  replace y3 := keep hb y3
  replace z3 := keep hb z3
  replace y4 := keep hb y4
  replace z4 := keep hb z4
  replace y5 := keep hb y5
  replace z5 := keep hb z5
  replace f0 := keepf hb (by omega) f0
  replace e0 := keepf hb (by omega) e0
  replace f1 := keepf hb (by omega) f1
  replace e1 := keepf hb (by omega) e1
  replace f2 := keepf hb (by omega) f2
  replace e2 := keepf hb (by omega) e2
  replace f3 := keepf hb (by omega) f3
  replace e3 := keepf hb (by omega) e3
  replace f4 := keepf hb (by omega) f4
  replace e4 := keepf hb (by omega) e4
  replace f5 := keepf hb (by omega) f5
  replace e5 := keepf hb (by omega) e5
  have hs1 := hb.size
  have HB := Lib.hid (below_call hB0 (Nat.le_refl _) hb)
  have hq4 : w.heap.size < w1.heap.size := by omega
  have hq5 : w.heap.size + 1 < w1.heap.size := by omega
  clear hb hB0 hW0
  obtain ⟨b4, hb4⟩ : ∃ y, y = w.heap.size := ⟨_, rfl⟩
  have HB4 := Lib.hid hb4
  simp only [← hb4] at y0 z0 f0 e0 y1 z1 f1 e1 y2 z2 f2 e2 y3 z3 f3 e3 y4 z4 f4 e4 y5 z5 f5 e5 hq4 hq5 ⊢
  clear hb4
  have hne : b4 ≠ b4 + 1 := by omega
  have hne' : b4 + 1 ≠ b4 := by omega
  go_wp2_with fail
  go_region_with (fail)
  all_goals
    go_wp2
    refine bodyPost_ret (v := .tuple #[.agg #[.int .i64 g, .int .i64 o, .int .i64 0, .int .i64 0, .int .i64 0, .int .i64 0], .agg #[.int .i64 0, .int .i64 0, .int .i64 0, .int .i64 0, .int .i64 0, .int .i64 0], .nilIface]) (by simp [results, Tryd.results13, go_sem, hne, hne', hq4, hq5, World.size_setCell, y0, z0, y1, z1, y2, z2, y3, z3, y4, z4, y5, z5]) rfl ⟨rfl, ?_⟩
    have hB1 : Below b4 w w1 := by rw [HB4.out]; exact HB.out
    have hB2 := hB1.size
    have hq6 : b4 ≤ w1.heap.size := by omega
    rw [← HB4.out]
    repeat' (first | (with_reducible exact hB1) | (with_reducible refine Below.drew ?_) | (with_reducible refine Below.alloc ?_ ?_ _) | (with_reducible refine Below.setCell ?_ ?_ _) | (with_reducible exact Nat.le_refl _) | (with_reducible exact Nat.le_succ _) | (simp only [World.size_setCell]; with_reducible exact hq6))
end Go.Proofs.YtahaclglkbgpcaaDoor
