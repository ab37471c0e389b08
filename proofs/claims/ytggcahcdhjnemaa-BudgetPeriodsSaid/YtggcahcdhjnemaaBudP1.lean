/- The two variables of BudgetPeriods in memory, and what the law knows of them. -/
import Derived.Test.YtggcahcdhjnemaaBud3
import Derived.Test.YtggcahcdhjnemaaBud8
import Derived.Test.YtggcahcdhjnemaaBud6
import Derived.Test.YtggcahcdhjnemaaBud7
set_option linter.unusedVariables false
set_option linter.unusedSimpArgs false
namespace Go.Proofs.Ytggcahcdhjnemaa
open Go.RowKit
set_option maxRecDepth 100000

theorem res_ok (mq mp xq xp : Int) (dy : Bool) (lf st en : Int) (w : World) (h : BV mq mp xq xp lf st en) :
    Calls Try.prog 12 #[bud mq mp xq xp dy lf st en] w fun e w' => e = .returned (.tuple #[.int .i64 (heldOf mq mp xq xp), .nilIface]) ∧ Below w.heap.size w w' := by
  rcases h.2.1 with ⟨rfl, rfl⟩ | ⟨z, _, v⟩ | ⟨z, _, _, v⟩
  · rw [held_none]; exact res_ok0 mq mp dy lf st en w h
  · rw [held_some z]; exact res_ok1 mq mp xq xp dy lf st en w h v
  · rw [held_some z]; exact res_ok1 mq mp xq xp dy lf st en w h v

/-- Two variables in memory: one of the cells f in block B, one of the cells g in block B + 1. -/
structure Mem (w0 : World) (B : Nat) (f g : List Value) (w : World) : Prop where
  below : Below w0.heap.size w0 w
  lo : w0.heap.size ≤ B
  hi : B + 1 < w.heap.size
  cb : ∀ i v, f[i]? = some v → w.cell? ⟨B, i, none⟩ = some v
  cy : ∀ i v, g[i]? = some v → w.cell? ⟨B + 1, i, none⟩ = some v
  fb : ∀ i, w.frozen? ⟨B, i, none⟩ = false
  fy : ∀ i, w.frozen? ⟨B + 1, i, none⟩ = false

theorem Mem.call {w0 : World} {B : Nat} {f g : List Value} {w w' : World} (M : Mem w0 B f g w) (hb : Below w.heap.size w w') : Mem w0 B f g w' :=
  ⟨below_call M.below (Nat.le_refl _) hb, M.lo, Nat.lt_of_lt_of_le M.hi hb.size, fun i v h => keep hb (M.cb i v h), fun i v h => keep hb (M.cy i v h), fun i => keepf hb (Nat.lt_of_succ_lt M.hi) (M.fb i), fun i => keepf hb M.hi (M.fy i)⟩

theorem Mem.at {w0 : World} {B : Nat} {f g : List Value} {w : World} (M : Mem w0 B f g w) {b o : Nat} {v : Value} (h : w0.cell? ⟨b, o, none⟩ = some v) : w.cell? ⟨b, o, none⟩ = some v := keep M.below h

theorem Mem.drew {w0 : World} {B : Nat} {f g : List Value} {w : World} (M : Mem w0 B f g w) (n : Nat) : Mem w0 B f g (w.drewN n) :=
  ⟨below_drewN' M.below n, M.lo, M.hi, M.cb, M.cy, M.fb, M.fy⟩

theorem Mem.drewW {w0 : World} {B : Nat} {f g : List Value} {w : World} (M : Mem w0 B f g w) : Mem w0 B f g w.drew :=
  ⟨Below.drew M.below, M.lo, M.hi, M.cb, M.cy, M.fb, M.fy⟩

theorem Mem.alloc {w0 : World} {B : Nat} {f g : List Value} {w : World} (M : Mem w0 B f g w) (o : Obj) : Mem w0 B f g (w.alloc o) :=
  M.call ((Below.refl _ w).alloc (Nat.le_refl _) o)

theorem Mem.setB {w0 : World} {B : Nat} {f g : List Value} {w : World} (M : Mem w0 B f g w) (j : Nat) (v : Value) (hj : j < f.length) : Mem w0 B (f.set j v) g (w.setCell ⟨B, j, none⟩ v) := by
  refine ⟨M.below.setCell M.lo v, M.lo, by simpa using M.hi, fun i x h => ?_, fun i x h => ?_, fun i => ?_, fun i => ?_⟩
  · rw [List.getElem?_set] at h
    by_cases e : j = i
    · subst e
      rw [if_pos rfl, if_pos hj] at h
      cases h
      exact css (by rw [M.cb j f[j] (List.getElem?_eq_getElem hj)]; rfl)
    · rw [if_neg e] at h
      exact cso (Or.inr e) (M.cb i x h)
  · exact cso (Or.inl (by simp)) (M.cy i x h)
  · rw [World.frozen?_setCell]; exact M.fb i
  · rw [World.frozen?_setCell]; exact M.fy i

theorem Mem.setY {w0 : World} {B : Nat} {f g : List Value} {w : World} (M : Mem w0 B f g w) (j : Nat) (v : Value) (hj : j < g.length) : Mem w0 B f (g.set j v) (w.setCell ⟨B + 1, j, none⟩ v) := by
  refine ⟨M.below.setCell (Nat.le_succ_of_le M.lo) v, M.lo, by simpa using M.hi, fun i x h => ?_, fun i x h => ?_, fun i => ?_, fun i => ?_⟩
  · exact cso (Or.inl (by simp)) (M.cb i x h)
  · rw [List.getElem?_set] at h
    by_cases e : j = i
    · subst e
      rw [if_pos rfl, if_pos hj] at h
      cases h
      exact css (by rw [M.cy j g[j] (List.getElem?_eq_getElem hj)]; rfl)
    · rw [if_neg e] at h
      exact cso (Or.inr e) (M.cy i x h)
  · rw [World.frozen?_setCell]; exact M.fb i
  · rw [World.frozen?_setCell]; exact M.fy i

/-- The cells of a budget. -/
abbrev budL (nq np xq xp : Int) (dy : Bool) (lf st en : Int) : List Value := [.int .i64 nq, .int .i64 np, .int .i64 xq, .int .i64 xp, .bool dy, .int .i64 lf, .int .i64 st, .int .i64 en]

theorem Mem.storeB {w0 : World} {B : Nat} {g : List Value} {w : World} {a b c d e h i j : Value} (M : Mem w0 B [a, b, c, d, e, h, i, j] g w) (v0 v1 v2 v3 v4 v5 v6 v7 : Value) :
    Mem w0 B [v0, v1, v2, v3, v4, v5, v6, v7] g ((((((((w.setCell ⟨B, 0, none⟩ v0).setCell ⟨B, 1, none⟩ v1).setCell ⟨B, 2, none⟩ v2).setCell ⟨B, 3, none⟩ v3).setCell ⟨B, 4, none⟩ v4).setCell ⟨B, 5, none⟩ v5).setCell ⟨B, 6, none⟩ v6).setCell ⟨B, 7, none⟩ v7) :=
  (((((((M.setB 0 v0 (by simp)).setB 1 v1 (by simp)).setB 2 v2 (by simp)).setB 3 v3 (by simp)).setB 4 v4 (by simp)).setB 5 v5 (by simp)).setB 6 v6 (by simp)).setB 7 v7 (by simp)

theorem Mem.storeY {w0 : World} {B : Nat} {f : List Value} {w : World} {a b : Value} (M : Mem w0 B f [a, b] w) (v0 v1 : Value) :
    Mem w0 B f [v0, v1] ((w.setCell ⟨B + 1, 0, none⟩ v0).setCell ⟨B + 1, 1, none⟩ v1) :=
  (M.setY 0 v0 (by simp)).setY 1 v1 (by simp)

/-- What the law knows of its variables. -/
def PI (nq np xq xp tk st yq yp : Int) : Prop := BV nq np xq xp (nq - tk) st (st + np) ∧ ((yq = 0 ∧ yp = 0 ∧ xq = 0 ∧ xp = 0) ∨ (Vld yq yp ∧ ((yq = nq ∧ yp = np ∧ xq = 0 ∧ xp = 0) ∨ (xq = yq ∧ xp = yp))))

theorem PI.held {nq np xq xp tk st yq yp : Int} (h : PI nq np xq xp tk st yq yp) : decide (heldOf nq np xq xp < unitsOf nq np) = false ∧ (((yq = 0 ∧ yp = 0)) ∨ (Vld yq yp ∧ (yq == 0) = false ∧ decide (heldOf nq np xq xp < unitsOf yq yp) = false)) := by
  obtain ⟨hv, hy⟩ := h
  constructor
  · unfold heldOf; simp; split <;> (try split) <;> omega
  · rcases hy with ⟨a, b, _, _⟩ | ⟨v, h2⟩
    · exact Or.inl ⟨a, b⟩
    · refine Or.inr ⟨v, by have := v.lo; simp; omega, ?_⟩
      have z := v.lo
      rcases h2 with ⟨rfl, rfl, rfl, rfl⟩ | ⟨rfl, rfl⟩
      · simp [heldOf]
      · unfold heldOf; simp; split
        · omega
        · split <;> omega

theorem PI.start {q p at_ : Int} (h : Vld q p) (h0 : 0 ≤ at_) (h1 : at_ ≤ 1073741824) : PI q p 0 0 0 at_ 0 0 :=
  ⟨⟨h, Or.inl ⟨rfl, rfl⟩, by have := h.lo; omega, by omega, h0, h1, rfl⟩, Or.inl ⟨rfl, rfl, rfl, rfl⟩⟩

theorem PI.take {nq np xq xp tk st yq yp : Int} (h : PI nq np xq xp tk st yq yp) (ht : tk < nq) : PI nq np xq xp (tk + 1) st yq yp := by
  obtain ⟨⟨a, b, c, d, e, f, g⟩, y⟩ := h
  exact ⟨⟨a, b, by omega, by omega, e, f, g⟩, y⟩

theorem PI.new {nq np xq xp tk st yq yp rq rp : Int} (h : PI nq np xq xp tk st yq yp) (hr : Vld rq rp) (hne : (rq == nq && rp == np) = false) : PI nq np rq rp tk st rq rp := by
  obtain ⟨⟨a, b, t⟩, y⟩ := h
  refine ⟨⟨a, ?_, t⟩, Or.inr ⟨hr, Or.inr ⟨rfl, rfl⟩⟩⟩
  have z : (rq == 0) = false := by have := hr.lo; simp; omega
  by_cases e : rq = nq
  · subst e
    right; right
    exact ⟨z, rfl, by simpa using hne, hr⟩
  · right; left
    exact ⟨z, by simpa using e, hr⟩

theorem PI.same {nq np xq xp tk st yq yp : Int} (h : PI nq np xq xp tk st yq yp) : PI nq np 0 0 tk st nq np := by
  obtain ⟨⟨a, b, t⟩, y⟩ := h
  exact ⟨⟨a, Or.inl ⟨rfl, rfl⟩, t⟩, Or.inr ⟨a, Or.inl ⟨rfl, rfl, rfl, rfl⟩⟩⟩

/-- Behind a boundary the budget has what was pending, or what it had. -/
theorem PI.cross {nq np xq xp tk st yq yp : Int} (h : PI nq np xq xp tk st yq yp) (he : st + np ≤ 1073741824) {mq mp : Int} (hm : Vld mq mp) : PI mq mp 0 0 0 (st + np) 0 0 := by
  obtain ⟨⟨a, b, c, d, e, f, g⟩, y⟩ := h
  have := a.lo; have := a.le
  exact PI.start hm (by omega) he

/-- A block of its own holds the cells f. -/
structure Blk (C : Nat) (f : List Value) (w : World) : Prop where
  lt : C < w.heap.size
  c : ∀ i v, f[i]? = some v → w.cell? ⟨C, i, none⟩ = some v
  fz : ∀ i, w.frozen? ⟨C, i, none⟩ = false

theorem Blk.call {C : Nat} {f : List Value} {w w' : World} (h : Blk C f w) (hb : Below w.heap.size w w') : Blk C f w' :=
  ⟨Nat.lt_of_lt_of_le h.lt hb.size, fun i v k => keep hb (h.c i v k), fun i => keepf hb h.lt (h.fz i)⟩

theorem Blk.set {C : Nat} {f : List Value} {w : World} (M : Blk C f w) (j : Nat) (v : Value) (hj : j < f.length) : Blk C (f.set j v) (w.setCell ⟨C, j, none⟩ v) := by
  refine ⟨by simpa using M.lt, fun i x h => ?_, fun i => ?_⟩
  · rw [List.getElem?_set] at h
    by_cases e : j = i
    · subst e
      rw [if_pos rfl, if_pos hj] at h
      cases h
      exact css (by rw [M.c j f[j] (List.getElem?_eq_getElem hj)]; rfl)
    · rw [if_neg e] at h
      exact cso (Or.inr e) (M.c i x h)
  · rw [World.frozen?_setCell]; exact M.fz i

theorem Blk.store {C : Nat} {w : World} {a b c d e h i j : Value} (M : Blk C [a, b, c, d, e, h, i, j] w) (v0 v1 v2 v3 v4 v5 v6 v7 : Value) :
    Blk C [v0, v1, v2, v3, v4, v5, v6, v7] ((((((((w.setCell ⟨C, 0, none⟩ v0).setCell ⟨C, 1, none⟩ v1).setCell ⟨C, 2, none⟩ v2).setCell ⟨C, 3, none⟩ v3).setCell ⟨C, 4, none⟩ v4).setCell ⟨C, 5, none⟩ v5).setCell ⟨C, 6, none⟩ v6).setCell ⟨C, 7, none⟩ v7) :=
  (((((((M.set 0 v0 (by simp)).set 1 v1 (by simp)).set 2 v2 (by simp)).set 3 v3 (by simp)).set 4 v4 (by simp)).set 5 v5 (by simp)).set 6 v6 (by simp)).set 7 v7 (by simp)

theorem Blk.new8 (w : World) (v0 v1 v2 v3 v4 v5 v6 v7 : Value) (t : TypeId) : Blk w.heap.size [v0, v1, v2, v3, v4, v5, v6, v7] (w.alloc (.cells #[v0, v1, v2, v3, v4, v5, v6, v7] t)) := by
  refine ⟨by simp, fun i v h => ?_, fun i => by simp only [frozen?_alloc_cells]; exact frozen_beyond _ _ _ (by omega)⟩
  rw [World.cell?_alloc_at _ _ _ _ (by simp)]
  match i, h with
  | 0, h => cases h; rfl
  | 1, h => cases h; rfl
  | 2, h => cases h; rfl
  | 3, h => cases h; rfl
  | 4, h => cases h; rfl
  | 5, h => cases h; rfl
  | 6, h => cases h; rfl
  | 7, h => cases h; rfl
  | n + 8, h => cases h

theorem Blk.new2 (w : World) (v0 v1 : Value) (t : TypeId) : Blk w.heap.size [v0, v1] (w.alloc (.cells #[v0, v1] t)) := by
  refine ⟨by simp, fun i v h => ?_, fun i => by simp only [frozen?_alloc_cells]; exact frozen_beyond _ _ _ (by omega)⟩
  rw [World.cell?_alloc_at _ _ _ _ (by simp)]
  match i, h with
  | 0, h => cases h; rfl
  | 1, h => cases h; rfl
  | n + 2, h => cases h

theorem Blk.store2 {C : Nat} {w : World} {a b : Value} (M : Blk C [a, b] w) (v0 v1 : Value) : Blk C [v0, v1] ((w.setCell ⟨C, 0, none⟩ v0).setCell ⟨C, 1, none⟩ v1) :=
  (M.set 0 v0 (by simp)).set 1 v1 (by simp)

theorem Blk.other {C : Nat} {f : List Value} {w : World} (M : Blk C f w) {D : Nat} (hD : D ≠ C) (j : Nat) (v : Value) : Blk C f (w.setCell ⟨D, j, none⟩ v) :=
  ⟨by simpa using M.lt, fun i x h => cso (Or.inl hD) (M.c i x h), fun i => by rw [World.frozen?_setCell]; exact M.fz i⟩

theorem Mem.other {w0 : World} {B : Nat} {f g : List Value} {w : World} (M : Mem w0 B f g w) {D : Nat} (hD : B + 1 < D) (j : Nat) (v : Value) : Mem w0 B f g (w.setCell ⟨D, j, none⟩ v) :=
  ⟨M.below.setCell (by have := M.lo; show w0.heap.size ≤ D; omega) v, M.lo, by simpa using M.hi, fun i x h => cso (Or.inl (by show D ≠ B; omega)) (M.cb i x h), fun i x h => cso (Or.inl (by show D ≠ B + 1; omega)) (M.cy i x h), fun i => by rw [World.frozen?_setCell]; exact M.fb i, fun i => by rw [World.frozen?_setCell]; exact M.fy i⟩

theorem Mem.other8 {w0 : World} {B : Nat} {f g : List Value} {w : World} (M : Mem w0 B f g w) {C : Nat} (hD : B + 1 < C) (v0 v1 v2 v3 v4 v5 v6 v7 : Value) :
    Mem w0 B f g ((((((((w.setCell ⟨C, 0, none⟩ v0).setCell ⟨C, 1, none⟩ v1).setCell ⟨C, 2, none⟩ v2).setCell ⟨C, 3, none⟩ v3).setCell ⟨C, 4, none⟩ v4).setCell ⟨C, 5, none⟩ v5).setCell ⟨C, 6, none⟩ v6).setCell ⟨C, 7, none⟩ v7) :=
  (((((((M.other hD 0 v0).other hD 1 v1).other hD 2 v2).other hD 3 v3).other hD 4 v4).other hD 5 v5).other hD 6 v6).other hD 7 v7

/-- Resize, whatever comes: a budget's cells and an error; which ones. -/
theorem brs_any (mq mp xq xp : Int) (dy : Bool) (tk st rq rp yq yp : Int) (P : PI mq mp xq xp tk st yq yp) :
    ∃ (c0 c1 c2 c3 : Int) (c4 : Bool) (c5 c6 c7 : Int) (g : Value), (∀ W, Calls Try.prog 15 #[bud mq mp xq xp dy (mq - tk) st (st + mp), .agg #[.int .i64 rq, .int .i64 rp]] W fun e w' => e = .returned (.tuple #[bud c0 c1 c2 c3 c4 c5 c6 c7, g]) ∧ Below W.heap.size W w') ∧
      ((Vld rq rp ∧ dy = false ∧ g = .nilIface ∧ Hid (c0 = mq ∧ c1 = mp ∧ c4 = false ∧ c5 = mq - tk ∧ c6 = st ∧ c7 = st + mp ∧ PI mq mp c2 c3 tk st rq rp)) ∨ ((∃ n, g = .iface 47 (.int .i64 n)) ∧ (¬ Vld rq rp ∨ (Vld rq rp ∧ dy = true)))) := by
  by_cases R : Vld rq rp
  · cases dy with
    | true => exact ⟨_, _, _, _, _, _, _, _, _, fun W => brs_dying mq mp xq xp (mq - tk) st (st + mp) rq rp W P.1 R, Or.inr ⟨⟨_, rfl⟩, Or.inr ⟨R, rfl⟩⟩⟩
    | false =>
      by_cases Q : (rq == mq && rp == mp) = false
      · exact ⟨_, _, _, _, _, _, _, _, _, fun W => brs_new mq mp xq xp (mq - tk) st (st + mp) rq rp W P.1 R Q, Or.inl ⟨R, rfl, rfl, rfl, rfl, rfl, rfl, rfl, rfl, P.new R Q⟩⟩
      · obtain ⟨rfl, rfl⟩ : rq = mq ∧ rp = mp := by simpa using Q
        exact ⟨_, _, _, _, _, _, _, _, _, fun W => brs_same rq rp xq xp (rq - tk) st (st + rp) W P.1, Or.inl ⟨R, rfl, rfl, rfl, rfl, rfl, rfl, rfl, rfl, P.same⟩⟩
  · exact ⟨_, _, _, _, _, _, _, _, _, fun W => brs_range mq mp xq xp dy (mq - tk) st (st + mp) rq rp W P.1 R, Or.inr ⟨⟨_, rfl⟩, Or.inl R⟩⟩
end Go.Proofs.Ytggcahcdhjnemaa
