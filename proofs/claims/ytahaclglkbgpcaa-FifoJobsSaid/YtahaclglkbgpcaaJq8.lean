/- Queues of jobs: Keep. -/
import Derived.Test.YtahaclglkbgpcaaJq7
set_option linter.unusedVariables false
set_option linter.unusedSimpArgs false
namespace Go.Proofs.Ytahaclglkbgpcaa
open Go.RowKit
open Go.Proofs.YtahaclglkbgpcaaW.PrintWords (Kd Drawn0 Kept rd rdOf)
open Go.Proofs.Ytahaclglkbgpcaa.PFifoJobs
set_option maxRecDepth 100000

section
variable {w w' : World} {q lim : Nat} {xs : List Jb} {S : Nat → Prop}
theorem Chg.cell {U : Nat → Prop} {a b : World} (h : Chg U a b) {k o : Nat} {v : Value} (hn : ¬ U k) (hc : a.cell? ⟨k, o, none⟩ = some v) : b.cell? ⟨k, o, none⟩ = some v := by
  have hk : k < a.heap.size := by
    rcases Nat.lt_or_ge k a.heap.size with h | h
    · exact h
    · simp [World.cell?, Array.getElem?_eq_none h] at hc
  simpa [World.cell?, h.block k hk hn] using hc
theorem jl_all {ys : List Jb} : jl ys ys.length 0 ys.length = ys := by
  apply List.ext_getElem?
  intro i
  by_cases hi : i < ys.length
  · have h2 : i % ys.length = i := Nat.mod_eq_of_lt hi
    simp [jl, List.getElem?_map, List.getElem?_range, hi, h2]
  · rw [List.getElem?_eq_none (by rw [jl_length]; omega), List.getElem?_eq_none (by omega)]
/-- Another ring of the same limit. -/
theorem JS.reset (h : JS w q lim xs S) {S' : Nat → Prop} {ys : List Jb} {a : Option Addr} {c b : Nat} (hR : kJ.R 48 w b (fun _ => True) (.slice a ys.length c) ys) (h0 : ys.length = 0 → a = none ∧ c = 0) (hq : q < b) (hl : ys.length ≤ lim)
    (hS1 : S' q) (hS2 : ∀ k, S' k → k < w.heap.size) (hS3 : ∀ k, b ≤ k → k < w.heap.size → S' k) :
    JS (((w.setCell ⟨q, 0, none⟩ (.slice a ys.length c)).setCell ⟨q, 1, none⟩ (.int .i64 0)).setCell ⟨q, 2, none⟩ (.int .i64 (ys.length : Int))) q lim ys S' := by
  obtain ⟨r, hblk⟩ := h.blk
  have h1 := heap_setCell_same w q 0 _ _ (.slice a ys.length c) hblk
  have h2 := heap_setCell_same _ q 1 _ _ (.int .i64 0) h1
  have h3 := heap_setCell_same _ q 2 _ _ (.int .i64 (ys.length : Int)) h2
  refine ⟨⟨hS1, fun k s => by simpa using hS2 k s⟩, ?_⟩
  by_cases hz : ys.length = 0
  · obtain ⟨rfl, rfl⟩ := h0 hz
    obtain rfl : ys = [] := List.eq_nil_of_length_eq_zero hz
    exact .inl ⟨rfl, h3, h.lim_le⟩
  · obtain ⟨g, cap, e, hbg, hlt, -⟩ := Kd.R_form hR (by omega)
    simp only [Value.slice.injEq, true_and] at e
    obtain ⟨rfl, rfl⟩ := e
    have hne : g ≠ q := by omega
    exact .inr ⟨g, ys.length, c, ys, ⟨h3, Kd.R_step (kJ_g hR) (fun k hk _ => by obtain rfl : k = g := hk; rw [Below.heap_setCell _ _ _ _ hne, Below.heap_setCell _ _ _ _ hne, Below.heap_setCell _ _ _ _ hne]), hne, by omega, Nat.le_refl _, hl, h.lim_le⟩, jl_all, hS3 g hbg hlt⟩
theorem kJ_cells {g n cap b : Nat} {ok : Nat → Prop} (h : kJ.R 48 w b ok (.slice (some ⟨g, 0, none⟩) n cap) xs) {i : Nat} {x : Jb} (hx : xs[i]? = some x) :
    w.cell? ⟨g, i * 4, none⟩ = some (.int .i64 x.f0) ∧ w.cell? ⟨g, i * 4 + 1, none⟩ = some (.int .i64 x.f1) ∧ w.cell? ⟨g, i * 4 + 2, none⟩ = some (.int .i64 x.f2) ∧ w.cell? ⟨g, i * 4 + 3, none⟩ = some (.int .i64 x.f3) := by
  have hi : i < xs.length := (List.getElem?_eq_some_iff.1 hx).1
  have hl : xs.length = n := (Kd.R_reads' h).1.symm
  obtain ⟨c, h1, h2, h3, h4⟩ := Kd.R_elem h zJ (i : Int) (by omega) (by omega)
  have e : xs.getD (i : Int).toNat zJ = x := by
    rw [List.getD_eq_getElem?_getD]; simp [hx]
  rw [e] at h2
  have h2' := k48_openM h2
  subst h2'
  exact ⟨h3 0 _ rfl, h3 1 _ rfl, h3 2 _ rfl, h3 3 _ rfl⟩
end

end Go.Proofs.Ytahaclglkbgpcaa
