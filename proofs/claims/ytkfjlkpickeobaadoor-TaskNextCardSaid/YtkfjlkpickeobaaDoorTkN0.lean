/- A row of tasks; task.Pick, by contract. Printed by gen_tkn.py (this repo's). -/
import Derived.Test.YtkfjlkpickeobaaDoorTmD
set_option linter.unusedVariables false
set_option linter.unusedSimpArgs false
namespace Go.Proofs.YtkfjlkpickeobaaDoor
open Go.RowKit
open Go.Proofs.YtkfjlkpickeobaaDoorW.PrintWords (Kd Drawn0 Kept rd rdOf ReadsRow)
open Go.Proofs.YtkfjlkpickeobaaDoor.PTaskRuns
set_option maxRecDepth 100000

/-- The task's cells at a place of a row, and its jobs. -/
structure TAt (w : World) (b o i : Nat) (T : Tk) (v : Value) : Prop where
  c0 : w.cell? ⟨b, o + i * 8, none⟩ = some (.int .i64 T.p)
  c1 : w.cell? ⟨b, o + i * 8 + 1, none⟩ = some v
  c2 : w.cell? ⟨b, o + i * 8 + 2, none⟩ = some (.int .i64 T.g)
  c3 : w.cell? ⟨b, o + i * 8 + 3, none⟩ = some (.int .i64 T.o)
  c4 : w.cell? ⟨b, o + i * 8 + 4, none⟩ = some (.int .i64 T.l)
  c5 : w.cell? ⟨b, o + i * 8 + 5, none⟩ = some (.int .i64 T.d)
  c6 : w.cell? ⟨b, o + i * 8 + 6, none⟩ = some (.int .i64 T.c)
  c7 : w.cell? ⟨b, o + i * 8 + 7, none⟩ = some (.int .i64 T.t)
  tr : TR w v T.js
theorem TAt.below {w w' : World} {b o i : Nat} {T : Tk} {v : Value} (h : TAt w b o i T v) (hb : Below w.heap.size w w') : TAt w' b o i T v :=
  ⟨keep hb h.c0, keep hb h.c1, keep hb h.c2, keep hb h.c3, keep hb h.c4, keep hb h.c5, keep hb h.c6, keep hb h.c7, h.tr.below hb⟩
/-- A slice that reads as tasks. -/
def TL (w : World) (A : Option Addr) (n : Nat) (Ts : List (Tk × Value)) : Prop := Ts.length = n ∧ ∀ i T v, Ts[i]? = some (T, v) → ∃ b o, A = some ⟨b, o, none⟩ ∧ TAt w b o i T v
theorem TL.below {w w' : World} {A : Option Addr} {n : Nat} {Ts : List (Tk × Value)} (h : TL w A n Ts) (hb : Below w.heap.size w w') : TL w' A n Ts :=
  ⟨h.1, fun i T v hi => by obtain ⟨b, o, e, k⟩ := h.2 i T v hi; exact ⟨b, o, e, k.below hb⟩⟩
theorem tasks_of {w : World} {b o : Nat} : ∀ n : Nat, (∀ i, i < n → ∃ (T : Tk) (v : Value), TAt w b o i T v ∧ T.js.length * 32 ≤ 140737488351232) → ∃ Ts : List (Tk × Value), Ts.length = n ∧ ∀ i T v, Ts[i]? = some (T, v) → TAt w b o i T v ∧ T.js.length * 32 ≤ 140737488351232
  | 0, _ => ⟨[], rfl, fun i T v h => by simp at h⟩
  | n + 1, h => by
    obtain ⟨Ts, h1, h2⟩ := tasks_of n (fun i hi => h i (by omega))
    obtain ⟨T0, v0, h0⟩ := h n (by omega)
    refine ⟨Ts ++ [(T0, v0)], by simp [h1], ?_⟩
    intro i T v hy
    rcases Nat.lt_or_ge i n with hi | hi
    · rw [List.getElem?_append_left (by omega)] at hy
      exact h2 i T v hy
    · rw [List.getElem?_append_right (by omega)] at hy
      have hi2 : i - Ts.length = 0 := by
        have := (List.getElem?_eq_some_iff.1 hy).1
        simp at this
        omega
      rw [hi2] at hy
      have e : (T0, v0) = (T, v) := by simpa using hy
      obtain ⟨rfl, rfl⟩ := Prod.mk.inj e
      obtain rfl : i = n := by omega
      exact h0
theorem tasks_of_rd {w : World} {a : Option Addr} {n c : Nat} (h : Rd46 w [.slice a n c]) : ∃ Ts : List (Tk × Value), TL w a n Ts ∧ n ≤ c ∧ n * 80 ≤ 140737488351232 ∧ ∀ (i : Nat) (T : Tk) (v : Value), Ts[i]? = some (T, v) → T.js.length * 32 ≤ 140737488351232 := by
  obtain ⟨a', n', c', e, hnc, hcm, hb, hh⟩ := h
  have e' : Value.slice a n c = Value.slice a' n' c' := by simpa using e
  injection e' with e1 e2 e3
  subst e1 e2 e3
  rcases hh with h0 | ⟨b, o, rfl, hel⟩
  · subst h0
    exact ⟨[], ⟨rfl, fun i T v h => by simp at h⟩, hnc, hb, fun i T v h => by simp at h⟩
  · obtain ⟨Ts, h1, h2⟩ := tasks_of (w := w) (b := b) (o := o) n (fun i hi => by
      obtain ⟨ce, hl, hc, hr⟩ := hel i hi
      obtain ⟨T, v, rfl, h1, h2⟩ := task_of_rd hr
      exact ⟨T, v, ⟨hc 0 (by decide), hc 1 (by decide), hc 2 (by decide), hc 3 (by decide), hc 4 (by decide), hc 5 (by decide), hc 6 (by decide), hc 7 (by decide), h1⟩, h2⟩)
    exact ⟨Ts, ⟨h1, fun i T v h => ⟨b, o, rfl, (h2 i T v h).1⟩⟩, hnc, hb, fun i T v h => (h2 i T v h).2⟩

/-- Of the first n tasks this one is picked. -/
def PK (Ts : List (Tk × Value)) (n : Nat) (z : Int) : Prop :=
  (z = -1 ∧ ∀ i T v, i < n → Ts[i]? = some (T, v) → T.js = []) ∨
  (∃ (j : Nat) (U : Tk) (u : Value), z = j ∧ j < n ∧ Ts[j]? = some (U, u) ∧ U.js ≠ [] ∧ ∀ i T v, i < n → Ts[i]? = some (T, v) → T.js ≠ [] → U.p ≤ T.p ∧ (T.p = U.p → j ≤ i))
theorem PK.zero (Ts : List (Tk × Value)) : PK Ts 0 (-1) := .inl ⟨rfl, fun i T v h => absurd h (Nat.not_lt_zero i)⟩
theorem PK.skip {Ts : List (Tk × Value)} {n : Nat} {z : Int} {T : Tk} {v : Value} (h : PK Ts n z) (hx : Ts[n]? = some (T, v)) (hT : T.js = [] ∨ ∃ (j : Nat) (U : Tk) (u : Value), z = j ∧ Ts[j]? = some (U, u) ∧ U.p ≤ T.p) : PK Ts (n + 1) z := by
  rcases h with ⟨h1, h2⟩ | ⟨j, U, u, h1, h2, h3, h4, h5⟩
  · rcases hT with hT | ⟨j, U, u, e, _⟩
    · refine .inl ⟨h1, fun i T' v' hi hx' => ?_⟩
      rcases Nat.lt_or_ge i n with k | k
      · exact h2 i T' v' k hx'
      · obtain rfl : i = n := by omega
        rw [hx] at hx'
        obtain ⟨rfl, rfl⟩ := Prod.mk.inj (Option.some.inj hx')
        exact hT
    · omega
  · refine .inr ⟨j, U, u, h1, by omega, h3, h4, fun i T' v' hi hx' hne => ?_⟩
    rcases Nat.lt_or_ge i n with k | k
    · exact h5 i T' v' k hx' hne
    · obtain rfl : i = n := by omega
      rw [hx] at hx'
      obtain ⟨rfl, rfl⟩ := Prod.mk.inj (Option.some.inj hx')
      rcases hT with hT | ⟨j', U', u', e, hx2, hle⟩
      · exact absurd hT hne
      · obtain rfl : j' = j := by omega
        rw [h3] at hx2
        obtain ⟨rfl, rfl⟩ := Prod.mk.inj (Option.some.inj hx2)
        exact ⟨hle, fun _ => by omega⟩
theorem PK.take {Ts : List (Tk × Value)} {n : Nat} {z : Int} {T : Tk} {v : Value} (h : PK Ts n z) (hx : Ts[n]? = some (T, v)) (hne : T.js ≠ []) (hT : z = -1 ∨ ∃ (j : Nat) (U : Tk) (u : Value), z = j ∧ Ts[j]? = some (U, u) ∧ T.p < U.p) : PK Ts (n + 1) (n : Int) := by
  refine .inr ⟨n, T, v, rfl, by omega, hx, hne, fun i T' v' hi hx' hne' => ?_⟩
  rcases Nat.lt_or_ge i n with k | k
  · rcases h with ⟨h1, h2⟩ | ⟨j, U, u, h1, h2, h3, h4, h5⟩
    · exact absurd (h2 i T' v' k hx') hne'
    · rcases hT with hT | ⟨j', U', u', e, hx2, hlt⟩
      · omega
      · obtain rfl : j' = j := by omega
        rw [h3] at hx2
        obtain ⟨rfl, rfl⟩ := Prod.mk.inj (Option.some.inj hx2)
        have := (h5 i T' v' k hx' hne').1
        exact ⟨by omega, fun e => by omega⟩
  · obtain rfl : i = n := by omega
    rw [hx] at hx'
    obtain ⟨rfl, rfl⟩ := Prod.mk.inj (Option.some.inj hx')
    exact ⟨Int.le_refl _, fun _ => Nat.le_refl _⟩
theorem PK.bd {Ts : List (Tk × Value)} {n : Nat} {z : Int} (h : PK Ts n z) : -1 ≤ z ∧ z < n := by
  rcases h with ⟨rfl, _⟩ | ⟨j, U, u, rfl, h2, _⟩
  · omega
  · omega
theorem PK.eq {Ts : List (Tk × Value)} {n : Nat} {y z : Int} (h : PK Ts n y) (k : PK Ts n z) : y = z := by
  rcases h with ⟨h1, h2⟩ | ⟨j, U, u, h1, h2, h3, h4, h5⟩ <;> rcases k with ⟨k1, k2⟩ | ⟨i, V, v, k1, k2, k3, k4, k5⟩
  · omega
  · exact absurd (h2 i V v k2 k3) k4
  · exact absurd (k2 j U u h2 h3) h4
  · have a := h5 i V v k2 k3 k4
    have b := k5 j U u h2 h3 h4
    have : j ≤ i := a.2 (by omega)
    have : i ≤ j := b.2 (by omega)
    omega

/-- What is carried in a round. -/
structure RN (w : World) (tb : Nat) (T : Tk) (v : Value) (b o j : Nat) (q : Int) (W : World) : Prop where
  t : TX W tb T v
  q : W.cell? ⟨b, o + j * 8, none⟩ = some (.int .i64 q)
  be : Below w.heap.size w W
theorem RN.below {w W W' : World} {tb : Nat} {T : Tk} {v : Value} {b o j : Nat} {q : Int} (h : RN w tb T v b o j q W) (hb : Below W.heap.size W W') : RN w tb T v b o j q W' := ⟨h.t.below hb, keep hb h.q, below_call h.be (Nat.le_refl _) hb⟩
theorem RN.drew {w W : World} {tb : Nat} {T : Tk} {v : Value} {b o j : Nat} {q : Int} (h : RN w tb T v b o j q W) : RN w tb T v b o j q W.drew := h.below (below_drewN' (Below.refl _ W) 1)
theorem RN.full {w W : World} {tb : Nat} {T : Tk} {v : Value} {b o j : Nat} {q : Int} (h : RN w tb T v b o j q W) : W.cell? ⟨tb, 0, none⟩ = some (.int .i64 T.p) ∧ W.cell? ⟨tb, 1, none⟩ = some v ∧ W.cell? ⟨tb, 2, none⟩ = some (.int .i64 T.g) ∧ W.cell? ⟨tb, 3, none⟩ = some (.int .i64 T.o) ∧ W.cell? ⟨tb, 4, none⟩ = some (.int .i64 T.l) ∧ W.cell? ⟨tb, 5, none⟩ = some (.int .i64 T.d) ∧ W.cell? ⟨tb, 6, none⟩ = some (.int .i64 T.c) ∧ W.cell? ⟨tb, 7, none⟩ = some (.int .i64 T.t) ∧ W.cell? ⟨b, o + j * 8, none⟩ = some (.int .i64 q) ∧ RN w tb T v b o j q W := by
  obtain ⟨t0, t1, t2, t3, t4, t5, t6, t7⟩ := h.t.t8
  exact ⟨t0, t1, t2, t3, t4, t5, t6, t7, h.q, h⟩

theorem undef_bool : Go.yielded.match_1 (fun _ => Option Bool) (some Go.undef) (fun b => some b) (fun _ => none) = none := rfl
theorem mergeW {G P : World → Prop} {Q : Prop} (main : Hid (∀ W, G W → P W) → Q) (side : ∀ W, G W → P W) : Q := main (Lib.hid side)

end Go.Proofs.YtkfjlkpickeobaaDoor
