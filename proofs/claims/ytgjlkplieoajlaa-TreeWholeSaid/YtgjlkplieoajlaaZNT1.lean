/- Of the text NT1 only what this claim needs (shake.py, this repo's). -/
import Derived.Test.YtgjlkplieoajlaaZNT0
set_option linter.unusedVariables false
set_option linter.unusedSimpArgs false
namespace Go.Proofs.Ytgjlkplieoajlaa
open Go.RowKit
set_option maxRecDepth 100000

/-- The block g holds parts of sz cells each: the first n of them are rs. -/
structure RW (W : World) (ty : TypeId) (sz g n cap : Nat) (rs : List (List Value)) : Prop where
  hp : ∃ cur : Array Value, W.heap[g]? = some (.cells cur ty (0, 0)) ∧ cur.size = cap * sz ∧ ∀ (i : Nat) (r : List Value), rs[i]? = some r → r.length = sz ∧ ∀ (j : Nat) (u : Value), r[j]? = some u → cur[i * sz + j]? = some u
  le : n ≤ cap
  mx : cap ≤ maxLen
  len : rs.length = n
section
variable {W W' : World} {ty : TypeId} {sz g n cap : Nat} {rs : List (List Value)}
theorem RW.lt (h : RW W ty sz g n cap rs) : g < W.heap.size := by
  obtain ⟨cur, h1, -⟩ := h.hp
  exact (Array.getElem?_eq_some_iff.1 h1).1
theorem RW.cell (h : RW W ty sz g n cap rs) {i j : Nat} {r : List Value} {u : Value} (hr : rs[i]? = some r) (hu : r[j]? = some u) : W.cell? ⟨g, i * sz + j, none⟩ = some u := by
  obtain ⟨cur, h1, h2, h3⟩ := h.hp
  have := (h3 i r hr).2 j u hu
  simp [World.cell?, h1, this]
theorem RW.fz (h : RW W ty sz g n cap rs) (j : Nat) : W.frozen? ⟨g, j, none⟩ = false := by
  obtain ⟨cur, h1, -⟩ := h.hp
  simp [World.frozen?, h1]
theorem RW.step (h : RW W ty sz g n cap rs) (e : W'.heap[g]? = W.heap[g]?) : RW W' ty sz g n cap rs := by
  obtain ⟨cur, h1, h2⟩ := h.hp
  exact ⟨⟨cur, e.trans h1, h2⟩, h.le, h.mx, h.len⟩
theorem RW.chg (h : RW W ty sz g n cap rs) {S : Nat → Prop} (hc : Chg S W W') (hg : ¬ S g) : RW W' ty sz g n cap rs := h.step (hc.block g h.lt hg)
theorem RW.below (h : RW W ty sz g n cap rs) (hb : Below W.heap.size W W') : RW W' ty sz g n cap rs := h.step (hb.block g h.lt)
theorem RW.ty_ne (h : RW W ty sz g n cap rs) {cs : Array Value} {ty2 : TypeId} {fr : Nat × Nat} {k : Nat} (hk : W.heap[k]? = some (.cells cs ty2 fr)) (ht : ty2 ≠ ty) : k ≠ g := by
  rintro rfl
  obtain ⟨cur, h1, -⟩ := h.hp
  rw [h1] at hk
  simp at hk
  exact ht hk.2.1.symm
theorem RW.set (h : RW W ty sz g n cap rs) {i : Nat} {r : List Value} (hr : rs[i]? = some r) (j : Nat) (hj : j < sz) (u : Value) : RW (W.setCell ⟨g, i * sz + j, none⟩ u) ty sz g n cap (rs.set i (r.set j u)) := by
  obtain ⟨cur, h1, h2, h3⟩ := h.hp
  have hi : i < rs.length := (List.getElem?_eq_some_iff.1 hr).1
  have hl := h.len
  have hle := h.le
  have hlt : i * sz + j < cur.size := by
    rw [h2]
    have : (i + 1) * sz ≤ cap * sz := Nat.mul_le_mul_right sz (by omega)
    rw [Nat.add_mul] at this
    omega
  refine ⟨⟨cur.setIfInBounds (i * sz + j) u, heap_setCell_same W g (i * sz + j) _ _ u h1, by simpa using h2, fun k q hq => ?_⟩, h.le, h.mx, by simpa using hl⟩
  rw [List.getElem?_set] at hq
  by_cases e : i = k
  · subst e
    rw [if_pos rfl, if_pos hi] at hq
    simp only [Option.some.injEq] at hq
    subst hq
    refine ⟨by rw [List.length_set]; exact (h3 i r hr).1, fun m x hx => ?_⟩
    rw [List.getElem?_set] at hx
    rw [Array.getElem?_setIfInBounds]
    by_cases e2 : j = m
    · subst e2
      have hrl := (h3 i r hr).1
      rw [if_pos rfl, if_pos (by omega)] at hx
      rw [if_pos rfl, if_pos hlt]
      exact hx
    · rw [if_neg e2] at hx
      rw [if_neg (by omega)]
      exact (h3 i r hr).2 m x hx
  · rw [if_neg e] at hq
    refine ⟨(h3 k q hq).1, fun m x hx => ?_⟩
    rw [Array.getElem?_setIfInBounds]
    have hm : m < sz := by rw [← (h3 k q hq).1]; exact (List.getElem?_eq_some_iff.1 hx).1
    rw [if_neg ?_]
    · exact (h3 k q hq).2 m x hx
    · intro e2
      rcases Nat.lt_or_gt_of_ne e with c | c
      · have : (i + 1) * sz ≤ k * sz := Nat.mul_le_mul_right sz c
        rw [Nat.add_mul] at this
        omega
      · have : (k + 1) * sz ≤ i * sz := Nat.mul_le_mul_right sz c
        rw [Nat.add_mul] at this
        omega
theorem set_set {α : Type} (l : List α) (i : Nat) (a b : α) : (l.set i a).set i b = l.set i b := by
  apply List.ext_getElem?
  intro k
  simp only [List.getElem?_set, List.length_set]
  by_cases e : i = k
  · subst e; simp
  · simp [e]
theorem RW.set2 {i : Nat} {q r : List Value} (h : RW W ty sz g n cap (rs.set i q)) (hr : rs[i]? = some r) (j : Nat) (hj : j < sz) (u : Value) : RW (W.setCell ⟨g, i * sz + j, none⟩ u) ty sz g n cap (rs.set i (q.set j u)) := by
  have hi : i < rs.length := (List.getElem?_eq_some_iff.1 hr).1
  have := h.set (i := i) (r := q) (by rw [List.getElem?_set]; simp [hi]) j hj u
  rwa [set_set] at this
end

end Go.Proofs.Ytgjlkplieoajlaa
