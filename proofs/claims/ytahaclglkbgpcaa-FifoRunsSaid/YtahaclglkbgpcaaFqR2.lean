/- Drop, by contract. -/
import Derived.Test.YtahaclglkbgpcaaFqR1
set_option linter.unusedVariables false
set_option linter.unusedSimpArgs false
namespace Go.Proofs.Ytahaclglkbgpcaa
open Go.RowKit Go.Shelf
set_option maxRecDepth 100000

/-- The row with its places from i up to j moved down by one. -/
def sh (i j : Nat) (zs : List Int) : List Int := (List.range zs.length).map fun t => if i ≤ t ∧ t < j then zs.getD (t + 1) 0 else zs.getD t 0
theorem sh_length (i j : Nat) (zs : List Int) : (sh i j zs).length = zs.length := by simp [sh]
theorem sh_start (i : Nat) (zs : List Int) : sh i i zs = zs := by
  apply List.ext_getElem
  · simp [sh]
  · intro k h1 h2
    have : ¬ (i ≤ k ∧ k < i) := by omega
    simp [sh, this, List.getD, h2]
theorem sh_next {i j : Nat} {zs : List Int} (h : i ≤ j) (hj : j + 1 < zs.length) : (sh i j zs).set j (zs.getD (j + 1) 0) = sh i (j + 1) zs := by
  apply List.ext_getElem
  · simp [sh]
  · intro k h1 h2
    have hk : k < zs.length := by simpa [sh] using h2
    by_cases e : j = k
    · subst e
      simp [sh, h]
    · have : (i ≤ k ∧ k < j + 1) ↔ (i ≤ k ∧ k < j) := by omega
      simp [sh, List.getElem_set, e, this]
theorem sh_at {i j : Nat} {zs : List Int} (hj : j + 1 < zs.length) : (sh i j zs)[j + 1]? = some (zs.getD (j + 1) 0) := by
  simp [sh, hj]
  intro _ h
  omega
theorem sh_end {i : Nat} {zs : List Int} (h : i < zs.length) : (sh i (zs.length - 1) zs).dropLast = zs.eraseIdx i := by
  apply List.ext_getElem
  · simp [sh, List.length_eraseIdx, h]
  · intro k h1 h2
    have hk : k < zs.length - 1 := by simpa [sh] using h1
    rw [List.getElem_dropLast, List.getElem_eraseIdx]
    simp only [sh, List.getElem_map, List.getElem_range]
    by_cases e : i ≤ k
    · rw [if_pos ⟨e, hk⟩, dif_neg (by omega)]
      simp [List.getD, show k + 1 < zs.length by omega]
    · rw [if_neg (by omega), dif_pos (by omega)]
      simp [List.getD, show k < zs.length by omega]

/-- What lies at a place of the ring, and where. -/
theorem Qu.place {w : World} {q lim : Nat} {zs : List Int} {S : Nat → Prop} (h : Qu IsI 84 3 w q lim (zs.map (Value.int .i64)) S) (h0 : 0 < zs.length) :
    ∃ (g n cap first : Nat), w.cell? ⟨q, 0, none⟩ = some (.slice (some ⟨g, 0, none⟩) n cap) ∧ w.cell? ⟨q, 1, none⟩ = some (.int .i64 (first : Int)) ∧ first < n ∧ n ≤ 4096 ∧ zs.length ≤ n ∧ S g ∧ S q ∧ g ≠ q ∧
      (∀ k, k < zs.length → w.cell? ⟨g, (first + k) % n, none⟩ = some (.int .i64 (zs.getD k 0)) ∧ w.frozen? ⟨g, (first + k) % n, none⟩ = false) ∧
      (∀ (W : World) (k : Nat) (x : Int), W.heap = w.heap → k < zs.length → Qu IsI 84 3 (W.setCell ⟨g, (first + k) % n, none⟩ (.int .i64 x)) q lim ((zs.set k x).map (Value.int .i64)) S) := by
  have hz : QZ (fun _ => False) w q lim zs := ⟨S, h, fun _ _ h => h⟩
  obtain ⟨ring, n, cap, first, cells, h1, h2, h3, h4⟩ := h
  have hle := h1.many_le
  have hnl := h1.n_le
  have hll := h1.lim_le
  rw [List.length_map] at hle h3
  rcases h1.form with ⟨rfl, rfl, rfl⟩ | ⟨g, rfl, hg, hf⟩
  · omega
  · refine ⟨g, n, cap, first, h1.c0, h1.c1, hf, by omega, hle, (h4 g).2 (.inr rfl), (h4 q).2 (.inl rfl), hg, fun k hk => ⟨?_, h1.own.frozenAt _⟩, fun W k x e hk => ?_⟩
    · obtain ⟨g', n', cap', first', c0, c1, _, _, _, hx⟩ := hz.ring hk
      rw [h1.c0] at c0
      rw [h1.c1] at c1
      simp at c0 c1
      obtain ⟨rfl, rfl, rfl⟩ := c0
      have : first = first' := by omega
      subst this
      rw [hx]
      simp [List.getD, hk]
    · refine ⟨.slice (some ⟨g, 0, none⟩) n cap, n, cap, first, cells.set ((first + k) % n) (.int .i64 x), ?_, ?_, ?_, h4⟩
      · rw [List.length_map, List.length_set]
        have := h1.heap e
        rw [List.length_map] at this
        exact this.setRing hg _ _
      · intro u hu
        rcases List.mem_or_eq_of_mem_set hu with h | h
        · exact h2 u h
        · exact ⟨x, h⟩
      · rw [List.length_map, List.length_set, lst_put _ h1.len hf hle hk, h3, List.map_set]
end Go.Proofs.Ytahaclglkbgpcaa
