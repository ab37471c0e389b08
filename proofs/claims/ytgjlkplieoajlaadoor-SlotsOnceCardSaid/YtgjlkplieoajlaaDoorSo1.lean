/- SlotsOnce in plain Lean: no handle is given twice; what was dropped is not good again. -/
import Derived.Test.YtgjlkplieoajlaaDoorSmC
set_option linter.unusedVariables false
set_option linter.unusedSimpArgs false
namespace Go.Proofs.YtgjlkplieoajlaaDoor
open Go.RowKit
open Go.Proofs.YtgjlkplieoajlaaDoor.PSlotsTwins

theorem allF_cnt (kind : Int) : ∀ (xs : List Sl) (i : Nat), (allF kind i xs).length = xs.countP (·.f1)
  | [], i => rfl
  | x :: r, i => by
    simp only [allF, List.countP_cons]
    have := allF_cnt kind r (i + 1)
    cases h : x.f1 <;> simp [h, this]
theorem allH_cnt (kind : Int) (xs : List Sl) : (allH kind xs).length = xs.countP (·.f1) := allF_cnt kind xs 0
theorem cnt_set {xs : List Sl} {i : Nat} {x : Sl} (h : xs[i]? = some x) (y : Sl) : (xs.set i y).countP (·.f1) + (if x.f1 = true then 1 else 0) = xs.countP (·.f1) + (if y.f1 = true then 1 else 0) := by
  induction xs generalizing i with
  | nil => simp at h
  | cons z r ih =>
    match i with
    | 0 =>
      simp at h
      subst h
      simp only [List.set_cons_zero, List.countP_cons]
      omega
    | i + 1 =>
      have := ih (i := i) (by simpa using h)
      simp only [List.set_cons_succ, List.countP_cons]
      omega

theorem mk_inj {i j : Nat} {g g' : Int} (h : mk 1 i g = mk 1 j g') (h0 : 1 ≤ g) (h1 : g ≤ 1023) (k0 : 1 ≤ g') (k1 : g' ≤ 1023) : i = j ∧ g = g' := by
  unfold mk at h; omega

/-- What holds of the table, of what was given and of what was dropped. -/
structure OI (n : Nat) (xs : List Sl) (G D : List Int) : Prop where
  tk : Tk 1 n xs
  gi : ∀ h ∈ G, ∃ (i : Nat) (x : Sl) (g : Int), xs[i]? = some x ∧ h = mk 1 i g ∧ 1 ≤ g ∧ g ≤ 1023 ∧ g ≤ x.f0 ∧ (x.f1 = false → g < x.f0)
  di : ∀ h ∈ D, ∃ (i : Nat) (x : Sl) (g : Int), xs[i]? = some x ∧ h = mk 1 i g ∧ 1 ≤ g ∧ g ≤ 1023 ∧ g < x.f0
  ct : (allH 1 xs).length + D.length = G.length

theorem OI.start {n : Nat} (n0 : 1 ≤ n) (n1 : n ≤ 4096) : OI n (List.replicate n oneSl) [] [] := by
  refine ⟨Tk.one (by omega) (by omega) n0 n1, fun h hh => by simp at hh, fun h hh => by simp at hh, ?_⟩
  rw [allH_cnt]
  simp [List.countP_replicate, oneSl]

theorem OI.new {n : Nat} {xs : List Sl} {G D : List Int} (H : OI n xs G D) {i : Nat} {x : Sl} (hx : xs[i]? = some x) (hf : FreeSl x) (v : Int) : Go.Proofs.YtgjlkplieoajlaaDoor.mk 1 i x.f0 ∉ G ∧ OI n (xs.set i ⟨x.f0, true, v⟩) (G ++ [Go.Proofs.YtgjlkplieoajlaaDoor.mk 1 i x.f0]) D := by
  have g1 := H.tk.gen i x hx
  have hi := (List.getElem?_eq_some_iff.1 hx).1
  have key : ∀ (j : Nat) (y : Sl), xs[j]? = some y → ∃ z, (xs.set i ⟨x.f0, true, v⟩)[j]? = some z ∧ z.f0 = y.f0 ∧ (z.f1 = false → y.f1 = false) := by
    intro j y hy
    rw [List.getElem?_set]
    by_cases e : i = j
    · subst e
      rw [hx] at hy
      simp at hy
      subst hy
      rw [if_pos rfl, if_pos hi]
      exact ⟨_, rfl, rfl, fun h => by simp at h⟩
    · rw [if_neg e]
      exact ⟨y, hy, rfl, id⟩
  refine ⟨fun hm => ?_, H.tk.set i _ g1.1 g1.2 (fun _ => hf.2), ?_, ?_, ?_⟩
  · obtain ⟨j, y, g, h1, h2, h3, h4, h5, h6⟩ := H.gi _ hm
    obtain ⟨e1, e2⟩ := mk_inj h2 g1.1 hf.2 h3 h4
    subst e1
    rw [hx] at h1
    simp at h1
    subst h1
    have := h6 hf.1
    omega
  · intro h hh
    rw [List.mem_append] at hh
    rcases hh with hh | hh
    · obtain ⟨j, y, g, h1, h2, h3, h4, h5, h6⟩ := H.gi _ hh
      obtain ⟨z, z1, z2, z3⟩ := key j y h1
      exact ⟨j, z, g, z1, h2, h3, h4, by omega, fun hz => by rw [z2]; exact h6 (z3 hz)⟩
    · simp at hh
      subst hh
      refine ⟨i, ⟨x.f0, true, v⟩, x.f0, by simp [hi], rfl, g1.1, hf.2, Int.le_refl _, fun h => by simp at h⟩
  · intro h hh
    obtain ⟨j, y, g, h1, h2, h3, h4, h5⟩ := H.di _ hh
    obtain ⟨z, z1, z2, z3⟩ := key j y h1
    exact ⟨j, z, g, z1, h2, h3, h4, by omega⟩
  · have c := cnt_set hx ⟨x.f0, true, v⟩
    have h0 := H.ct
    rw [allH_cnt] at h0 ⊢
    rw [if_neg (by rw [hf.1]; decide), if_pos rfl] at c
    simp only [List.length_append, List.length_singleton]
    omega

theorem OI.drop {n : Nat} {xs : List Sl} {G D : List Int} (H : OI n xs G D) {h : Int} {i : Nat} {x : Sl} (ha : At 1 h xs i x) : OI n (xs.set i ⟨x.f0 + 1, false, 0⟩) G (D ++ [h]) := by
  obtain ⟨hx, hf, he⟩ := ha
  have g1 := H.tk.gen i x hx
  have g2 := H.tk.top i x hx hf
  have hi := (List.getElem?_eq_some_iff.1 hx).1
  have key : ∀ (j : Nat) (y : Sl), xs[j]? = some y → ∃ z, (xs.set i ⟨x.f0 + 1, false, 0⟩)[j]? = some z ∧ y.f0 ≤ z.f0 ∧ (z.f1 = false → y.f1 = false ∨ y.f0 < z.f0) := by
    intro j y hy
    rw [List.getElem?_set]
    by_cases e : i = j
    · subst e
      rw [hx] at hy
      simp at hy
      subst hy
      rw [if_pos rfl, if_pos hi]
      exact ⟨_, rfl, by show x.f0 ≤ x.f0 + 1; omega, fun h => .inr (by show x.f0 < x.f0 + 1; omega)⟩
    · rw [if_neg e]
      exact ⟨y, hy, Int.le_refl _, .inl⟩
  refine ⟨H.tk.set i _ (by show 1 ≤ x.f0 + 1; omega) (by show x.f0 + 1 ≤ 1024; omega) (fun h => by simp at h), ?_, ?_, ?_⟩
  · intro h hh
    obtain ⟨j, y, g, h1, h2, h3, h4, h5, h6⟩ := H.gi _ hh
    obtain ⟨z, z1, z2, z3⟩ := key j y h1
    refine ⟨j, z, g, z1, h2, h3, h4, by omega, fun hz => ?_⟩
    rcases z3 hz with k | k
    · have := h6 k; omega
    · omega
  · intro h' hh
    rw [List.mem_append] at hh
    rcases hh with hh | hh
    · obtain ⟨j, y, g, h1, h2, h3, h4, h5⟩ := H.di _ hh
      obtain ⟨z, z1, z2, z3⟩ := key j y h1
      exact ⟨j, z, g, z1, h2, h3, h4, by omega⟩
    · simp at hh
      subst hh
      exact ⟨i, ⟨x.f0 + 1, false, 0⟩, x.f0, by simp [hi], he.symm, g1.1, g2, by show x.f0 < x.f0 + 1; omega⟩
  · have c := cnt_set hx ⟨x.f0 + 1, false, 0⟩
    have h0 := H.ct
    rw [allH_cnt] at h0 ⊢
    rw [if_pos hf, if_neg (by simp)] at c
    simp only [List.length_append, List.length_singleton]
    omega

theorem OI.no {n : Nat} {xs : List Sl} {G D : List Int} (H : OI n xs G D) {h : Int} (hh : h ∈ D) : NoAt 1 h xs := by
  rintro j y ⟨h1, h2, h3⟩
  obtain ⟨i, x, g, k1, k2, k3, k4, k5⟩ := H.di _ hh
  have g1 := H.tk.gen j y h1
  have g2 := H.tk.top j y h1 h2
  rw [k2] at h3
  obtain ⟨e1, e2⟩ := mk_inj h3 g1.1 g2 k3 k4
  subst e1
  rw [k1] at h1
  simp at h1
  subst h1
  omega

end Go.Proofs.YtgjlkplieoajlaaDoor
