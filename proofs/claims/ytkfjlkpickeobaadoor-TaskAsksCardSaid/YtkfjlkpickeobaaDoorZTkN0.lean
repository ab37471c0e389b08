/- Of the text TkN0 only what this claim needs (shake.py, this repo's). -/
import Derived.Test.YtkfjlkpickeobaaDoorZTmD
set_option linter.unusedVariables false
set_option linter.unusedSimpArgs false
namespace Go.Proofs.YtkfjlkpickeobaaDoor
open Go.RowKit
open Go.Proofs.YtkfjlkpickeobaaDoorW.PrintWords (Kd Drawn0 Kept rd rdOf ReadsRow)
open Go.Proofs.YtkfjlkpickeobaaDoor.PTaskRuns
set_option maxRecDepth 100000

/-- The task's cells at a place of a row, and its jobs. -/
structure TAt (w : World) (b o i : Nat) (T : Tk) (v : Value) : Prop where
  c0 : w.cell? ⟨b, o + i * 8, none⟩ = some (.int .i64 T.p)
  c1 : w.cell? ⟨b, o + i * 8 + 1, none⟩ = some v
  c2 : w.cell? ⟨b, o + i * 8 + 2, none⟩ = some (.int .i64 T.g)
  c3 : w.cell? ⟨b, o + i * 8 + 3, none⟩ = some (.int .i64 T.o)
  c4 : w.cell? ⟨b, o + i * 8 + 4, none⟩ = some (.int .i64 T.l)
  c5 : w.cell? ⟨b, o + i * 8 + 5, none⟩ = some (.int .i64 T.d)
  c6 : w.cell? ⟨b, o + i * 8 + 6, none⟩ = some (.int .i64 T.c)
  c7 : w.cell? ⟨b, o + i * 8 + 7, none⟩ = some (.int .i64 T.t)
  tr : TR w v T.js
theorem TAt.below {w w' : World} {b o i : Nat} {T : Tk} {v : Value} (h : TAt w b o i T v) (hb : Below w.heap.size w w') : TAt w' b o i T v :=
  ⟨keep hb h.c0, keep hb h.c1, keep hb h.c2, keep hb h.c3, keep hb h.c4, keep hb h.c5, keep hb h.c6, keep hb h.c7, h.tr.below hb⟩
/-- A slice that reads as tasks. -/
def TL (w : World) (A : Option Addr) (n : Nat) (Ts : List (Tk × Value)) : Prop := Ts.length = n ∧ ∀ i T v, Ts[i]? = some (T, v) → ∃ b o, A = some ⟨b, o, none⟩ ∧ TAt w b o i T v
theorem TL.below {w w' : World} {A : Option Addr} {n : Nat} {Ts : List (Tk × Value)} (h : TL w A n Ts) (hb : Below w.heap.size w w') : TL w' A n Ts :=
  ⟨h.1, fun i T v hi => by obtain ⟨b, o, e, k⟩ := h.2 i T v hi; exact ⟨b, o, e, k.below hb⟩⟩
theorem tasks_of {w : World} {b o : Nat} : ∀ n : Nat, (∀ i, i < n → ∃ (T : Tk) (v : Value), TAt w b o i T v ∧ T.js.length * 32 ≤ 140737488351232) → ∃ Ts : List (Tk × Value), Ts.length = n ∧ ∀ i T v, Ts[i]? = some (T, v) → TAt w b o i T v ∧ T.js.length * 32 ≤ 140737488351232
  | 0, _ => ⟨[], rfl, fun i T v h => by simp at h⟩
  | n + 1, h => by
    obtain ⟨Ts, h1, h2⟩ := tasks_of n (fun i hi => h i (by omega))
    obtain ⟨T0, v0, h0⟩ := h n (by omega)
    refine ⟨Ts ++ [(T0, v0)], by simp [h1], ?_⟩
    intro i T v hy
    rcases Nat.lt_or_ge i n with hi | hi
    · rw [List.getElem?_append_left (by omega)] at hy
      exact h2 i T v hy
    · rw [List.getElem?_append_right (by omega)] at hy
      have hi2 : i - Ts.length = 0 := by
        have := (List.getElem?_eq_some_iff.1 hy).1
        simp at this
        omega
      rw [hi2] at hy
      have e : (T0, v0) = (T, v) := by simpa using hy
      obtain ⟨rfl, rfl⟩ := Prod.mk.inj e
      obtain rfl : i = n := by omega
      exact h0
theorem tasks_of_rd {w : World} {a : Option Addr} {n c : Nat} (h : Rd46 w [.slice a n c]) : ∃ Ts : List (Tk × Value), TL w a n Ts ∧ n ≤ c ∧ n * 80 ≤ 140737488351232 ∧ ∀ (i : Nat) (T : Tk) (v : Value), Ts[i]? = some (T, v) → T.js.length * 32 ≤ 140737488351232 := by
  obtain ⟨a', n', c', e, hnc, hcm, hb, hh⟩ := h
  have e' : Value.slice a n c = Value.slice a' n' c' := by simpa using e
  injection e' with e1 e2 e3
  subst e1 e2 e3
  rcases hh with h0 | ⟨b, o, rfl, hel⟩
  · subst h0
    exact ⟨[], ⟨rfl, fun i T v h => by simp at h⟩, hnc, hb, fun i T v h => by simp at h⟩
  · obtain ⟨Ts, h1, h2⟩ := tasks_of (w := w) (b := b) (o := o) n (fun i hi => by
      obtain ⟨ce, hl, hc, hr⟩ := hel i hi
      obtain ⟨T, v, rfl, h1, h2⟩ := task_of_rd hr
      exact ⟨T, v, ⟨hc 0 (by decide), hc 1 (by decide), hc 2 (by decide), hc 3 (by decide), hc 4 (by decide), hc 5 (by decide), hc 6 (by decide), hc 7 (by decide), h1⟩, h2⟩)
    exact ⟨Ts, ⟨h1, fun i T v h => ⟨b, o, rfl, (h2 i T v h).1⟩⟩, hnc, hb, fun i T v h => (h2 i T v h).2⟩

end Go.Proofs.YtkfjlkpickeobaaDoor
