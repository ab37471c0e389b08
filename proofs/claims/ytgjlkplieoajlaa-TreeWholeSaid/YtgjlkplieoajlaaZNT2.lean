/- Of the text NT2 only what this claim needs (shake.py, this repo's). -/
import Derived.Test.YtgjlkplieoajlaaZNT1
set_option linter.unusedVariables false
set_option linter.unusedSimpArgs false
namespace Go.Proofs.Ytgjlkplieoajlaa
open Go.RowKit
open Go.Proofs.YtgjlkplieoajlaaW.PrintWords (Kd Drawn0 Kept rd rdOf)
open Go.Proofs.Ytgjlkplieoajlaa.PTreeWhole
set_option maxRecDepth 100000

theorem Chg.setCell {S : Nat → Prop} {a b : World} (h : Chg S a b) (p : Addr) (v : Value) (hp : S p.block) : Chg S a (b.setCell p v) :=
  ⟨h.os, h.tape, h.output, by simpa using h.size, fun k hk hn => (Below.heap_setCell b p v k (fun e => hn (e ▸ hp))).trans (h.block k hk hn)⟩
theorem blkB {w2 w3 : World} {b : Nat} {o : Obj} (h : w2.heap[b]? = some o) (hb : Below w2.heap.size w2 w3) : w3.heap[b]? = some o := (hb.block b (Array.getElem?_eq_some_iff.1 h).1).trans h
theorem cell_of {w : World} {b : Nat} {v : Value} {ty : TypeId} {fr : Nat × Nat} (h : w.heap[b]? = some (.cells #[v] ty fr)) : w.cell? ⟨b, 0, none⟩ = some v := by simp [World.cell?, h]
theorem cell_new (w : World) (v : Value) (ty : TypeId) : (w.alloc (.cells #[v] ty)).cell? ⟨w.heap.size, 0, none⟩ = some v := cell_of (heap_alloc_new w _)
/-- A slot: its generation, whether it is taken, the parent of the node there. -/
structure Nk where
  f0 : Int
  f1 : Bool
  p : Int
abbrev Nk.cs (x : Nk) : List Value := [.int .i64 x.f0, .bool x.f1, .int .i64 x.p]
/-- A free slot. -/
abbrev noNk (g : Int) : Nk := ⟨g, false, 0⟩
/-- A table: its block t, its slots' block g. -/
structure NT (w : World) (t g n cap : Nat) (kind : Int) (xs : List Nk) : Prop where
  blk : w.heap[t]? = some (.cells #[.int .i64 kind, .slice (some ⟨g, 0, none⟩) n cap] 63 (0, 0))
  row : RW w 65 3 g n cap (xs.map Nk.cs)
/-- What a table may be: its kind, its slots. -/
structure NM (kind : Int) (n : Nat) (xs : List Nk) : Prop where
  k0 : 1 ≤ kind
  k3 : kind ≤ 3
  n0 : 1 ≤ n
  n1 : n ≤ 4096
  len : xs.length = n
  gen : ∀ (i : Nat) (x : Nk), xs[i]? = some x → 1 ≤ x.f0 ∧ x.f0 ≤ 1024
  top : ∀ (i : Nat) (x : Nk), xs[i]? = some x → x.f1 = true → x.f0 ≤ 1023
section
variable {w w' : World} {t g n cap : Nat} {kind : Int} {xs : List Nk}
theorem NT.c0 (h : NT w t g n cap kind xs) : w.cell? ⟨t, 0, none⟩ = some (.int .i64 kind) := by simp [World.cell?, h.blk]
theorem NT.c1 (h : NT w t g n cap kind xs) : w.cell? ⟨t, 1, none⟩ = some (.slice (some ⟨g, 0, none⟩) n cap) := by simp [World.cell?, h.blk]
theorem NT.lt (h : NT w t g n cap kind xs) : t < w.heap.size := (Array.getElem?_eq_some_iff.1 h.blk).1
theorem NT.ltg (h : NT w t g n cap kind xs) : g < w.heap.size := h.row.lt
theorem NT.len (h : NT w t g n cap kind xs) : xs.length = n := by simpa using h.row.len
theorem NT.le (h : NT w t g n cap kind xs) : n ≤ cap := h.row.le
theorem NT.ne (h : NT w t g n cap kind xs) : t ≠ g := h.row.ty_ne h.blk (by decide)
theorem NT.r (h : NT w t g n cap kind xs) {i : Nat} {x : Nk} (hx : xs[i]? = some x) : (xs.map Nk.cs)[i]? = some x.cs := by rw [List.getElem?_map, hx]; rfl
theorem NT.e0 (h : NT w t g n cap kind xs) {i : Nat} {x : Nk} (hx : xs[i]? = some x) : w.cell? ⟨g, i * 3, none⟩ = some (.int .i64 x.f0) := h.row.cell (j := 0) (h.r hx) rfl
theorem NT.e1 (h : NT w t g n cap kind xs) {i : Nat} {x : Nk} (hx : xs[i]? = some x) : w.cell? ⟨g, i * 3 + 1, none⟩ = some (.bool x.f1) := h.row.cell (j := 1) (h.r hx) rfl
theorem NT.e2 (h : NT w t g n cap kind xs) {i : Nat} {x : Nk} (hx : xs[i]? = some x) : w.cell? ⟨g, i * 3 + 2, none⟩ = some (.int .i64 x.p) := h.row.cell (j := 2) (h.r hx) rfl
theorem NT.fz (h : NT w t g n cap kind xs) (j : Nat) : w.frozen? ⟨g, j, none⟩ = false := h.row.fz j
theorem NT.f3 (h : NT w t g n cap kind xs) (i : Nat) : w.frozen? ⟨g, i * 3, none⟩ = false ∧ w.frozen? ⟨g, i * 3 + 1, none⟩ = false ∧ w.frozen? ⟨g, i * 3 + 2, none⟩ = false := ⟨h.fz _, h.fz _, h.fz _⟩
theorem NT.chg (h : NT w t g n cap kind xs) {S : Nat → Prop} (hc : Chg S w w') (h1 : ¬ S t) (h2 : ¬ S g) : NT w' t g n cap kind xs := ⟨hc.heap h.blk h1, h.row.chg hc h2⟩
theorem NT.below (h : NT w t g n cap kind xs) (hb : Below w.heap.size w w') : NT w' t g n cap kind xs := h.chg (Chg.ofBelow hb (fun _ => False)) (fun f => f) (fun f => f)
theorem NT.drewN (h : NT w t g n cap kind xs) (m : Nat) : NT (w.drewN m) t g n cap kind xs := h.below (below_drewN' (Below.refl _ w) m)
theorem NT.drew (h : NT w t g n cap kind xs) : NT w.drew t g n cap kind xs := h.drewN 1
/-- A slot's cells are written anew. -/
theorem NT.put (h : NT w t g n cap kind xs) {i : Nat} {x : Nk} (hx : xs[i]? = some x) (y : Nk) (hc : Chg (fun k => k = g) w w') (hr : RW w' 65 3 g n cap ((xs.map Nk.cs).set i y.cs)) : NT w' t g n cap kind (xs.set i y) :=
  ⟨hc.heap h.blk (fun e => h.ne e), by rw [List.map_set]; exact hr⟩
end
theorem RW.self3 {W : World} {g n cap i : Nat} {rs : List (List Value)} {ty : TypeId} {q : List Value} (h : RW W ty 3 g n cap rs) (hr : rs[i]? = some q) : RW W ty 3 g n cap (rs.set i q) := by
  have e : rs.set i q = rs := by
    apply List.ext_getElem?
    intro k
    rw [List.getElem?_set]
    split
    · next e => subst e; rw [hr]; simp [(List.getElem?_eq_some_iff.1 hr).1]
    · rfl
  rw [e]; exact h
/-- The table behind an Add: two stores. -/
theorem NT.set2 {w W : World} {t g n cap : Nat} {kind : Int} {xs : List Nk} (h : NT w t g n cap kind xs) {i : Nat} {x : Nk} (hx : xs[i]? = some x) (b : Bool) (q : Int)
    (hW : W = ((w.setCell ⟨g, i * 3 + 1, none⟩ (.bool b)).setCell ⟨g, i * 3 + 2, none⟩ (.int .i64 q))) : NT W t g n cap kind (xs.set i ⟨x.f0, b, q⟩) ∧ Chg (fun k => k = g) w W := by
  subst hW
  have hc := ((Chg.refl (fun k => k = g) w).setCell ⟨g, i * 3 + 1, none⟩ (.bool b) rfl).setCell ⟨g, i * 3 + 2, none⟩ (.int .i64 q) rfl
  exact ⟨h.put hx ⟨x.f0, b, q⟩ hc (((h.row.self3 (h.r hx)).set2 (h.r hx) 1 (by omega) (.bool b)).set2 (h.r hx) 2 (by omega) (.int .i64 q)), hc⟩
/-- The table behind a Drop: three stores. -/
theorem NT.set3 {w W : World} {t g n cap : Nat} {kind : Int} {xs : List Nk} (h : NT w t g n cap kind xs) {i : Nat} {x : Nk} (hx : xs[i]? = some x) (a : Int) (b : Bool) (q : Int)
    (hW : W = (((w.setCell ⟨g, i * 3, none⟩ (.int .i64 a)).setCell ⟨g, i * 3 + 1, none⟩ (.bool b)).setCell ⟨g, i * 3 + 2, none⟩ (.int .i64 q))) : NT W t g n cap kind (xs.set i ⟨a, b, q⟩) ∧ Chg (fun k => k = g) w W := by
  subst hW
  have hc := (((Chg.refl (fun k => k = g) w).setCell ⟨g, i * 3, none⟩ (.int .i64 a) rfl).setCell ⟨g, i * 3 + 1, none⟩ (.bool b) rfl).setCell ⟨g, i * 3 + 2, none⟩ (.int .i64 q) rfl
  exact ⟨h.put hx ⟨a, b, q⟩ hc ((((h.row.self3 (h.r hx)).set2 (h.r hx) 0 (by omega) (.int .i64 a)).set2 (h.r hx) 1 (by omega) (.bool b)).set2 (h.r hx) 2 (by omega) (.int .i64 q)), hc⟩
theorem NM.set {kind : Int} {n : Nat} {xs : List Nk} (h : NM kind n xs) (i : Nat) (x : Nk) (h0 : 1 ≤ x.f0) (h1 : x.f0 ≤ 1024) (h2 : x.f1 = true → x.f0 ≤ 1023) : NM kind n (xs.set i x) := by
  have hs : ∀ (j : Nat) (y : Nk), (xs.set i x)[j]? = some y → y = x ∨ xs[j]? = some y := by
    intro j y hy
    rw [List.getElem?_set] at hy
    split at hy
    · split at hy
      · exact .inl (by simpa using hy.symm)
      · simp at hy
    · exact .inr hy
  refine ⟨h.k0, h.k3, h.n0, h.n1, by simpa using h.len, ?_, ?_⟩
  · intro j y hy
    rcases hs j y hy with rfl | hy
    · exact ⟨h0, h1⟩
    · exact h.gen j y hy
  · intro j y hy hf
    rcases hs j y hy with rfl | hy
    · exact h2 hf
    · exact h.top j y hy hf

theorem nname_q (t g n cap i : Nat) (kind : Int) (xs : List Nk) (x : Nk) (w : World) (h : NT w t g n cap kind xs) (hT : NM kind n xs) (hx : xs[i]? = some x) (hle : x.f0 ≤ 1023) :
    Calls Try.prog 25 #[.pointer (some ⟨t, 0, none⟩), .int .i64 (i : Int)] w fun e w' => e = .returned (.int .i64 (mk kind i x.f0)) ∧ ∃ m, w' = w.drewN m := by
  have c0 := h.c0
  have c1 := h.c1
  have e0 := h.e0 hx
  have hi : i < n := by have := (List.getElem?_eq_some_iff.1 hx).1; have := h.len; omega
  have hn := hT.n1
  have M := fun w => make_q kind (i : Int) x.f0 w hT.k0 hT.k3 (by omega) (by omega) (hT.gen i x hx).1 hle
  have HM := Lib.hid M
  clear M h hT hx hle
  go_enter Try.func25, Try.ntmps25
  go_wp2_with (go_quiet ((go_at_call 27; exact Calls.quiet_of (HM.out _))))
  go_ret
  exact ⟨rfl, _, rfl⟩

end Go.Proofs.Ytgjlkplieoajlaa
