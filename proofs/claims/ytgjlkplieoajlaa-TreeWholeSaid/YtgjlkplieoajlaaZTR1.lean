/- Of the text TR1 only what this claim needs (shake.py, this repo's). -/
import Derived.Test.YtgjlkplieoajlaaZTR0
set_option linter.unusedVariables false
set_option linter.unusedSimpArgs false
namespace Go.Proofs.Ytgjlkplieoajlaa
open Go.RowKit
open Go.Proofs.YtgjlkplieoajlaaW.PrintWords (Kd Drawn0 Kept rd rdOf)
open Go.Proofs.Ytgjlkplieoajlaa.PTreeWhole
set_option maxRecDepth 100000

abbrev RH (W : World) (b : Nat) (v : Value) (l : List Int) : Prop := (Kd.int .i64).R 27 W b (fun _ => True) v l
theorem rowH_form {W : World} {b : Nat} {v : Value} {l : List Int} (h : RH W b v l) : (v = .slice none 0 0 ∧ l = []) ∨ ∃ g cap cur, v = .slice (some ⟨g, 0, none⟩) l.length cap ∧ b ≤ g ∧ W.heap[g]? = some (.cells cur 27 (0, 0)) ∧ ∀ (i : Nat) (x : Int), l[i]? = some x → W.cell? ⟨g, i, none⟩ = some (.int .i64 x) := by
  rcases (Kd.own_of_R h).2 with ⟨e, hl⟩ | ⟨g', cap', cur, e, hb, hg, -⟩
  · exact .inl ⟨e, List.eq_nil_of_length_eq_zero hl⟩
  · refine .inr ⟨g', cap', cur, e, hb, hg, fun i x hx => ?_⟩
    subst e
    have ho := Kd.own_of_R h
    have hi : i < l.length := (List.getElem?_eq_some_iff.1 hx).1
    have hc := ho.cellAt i (by rw [Nat.mul_one]; exact hi)
    rw [hc]
    simp [YtgjlkplieoajlaaW.PrintWords.encs, hx]
theorem rowH_ty {W : World} {b : Nat} {v : Value} {l : List Int} {k : Nat} (h : RH W b v l) (hk : v.ownBlock = some k) : b ≤ k ∧ k < W.heap.size ∧ ∃ cur, W.heap[k]? = some (.cells cur 27 (0, 0)) := by
  rcases rowH_form h with ⟨e, -⟩ | ⟨g', cap', cur, e, hb, hg, -⟩
  · subst e; simp [Value.ownBlock] at hk
  · subst e; simp [Value.ownBlock] at hk; subst hk; exact ⟨hb, (Array.getElem?_eq_some_iff.1 hg).1, cur, hg⟩
/-- What is not the row's block may turn. -/
theorem rowH_chg {W W' : World} {b : Nat} {v : Value} {l : List Int} (h : RH W b v l) {S : Nat → Prop} (hc : Chg S W W') (hS : ∀ (k : Nat) (cs : Array Value), v.ownBlock = some k → W.heap[k]? = some (.cells cs 27 (0, 0)) → ¬ S k) : RH W' b v l := by
  have h' : (Kd.int .i64).R 27 W b (fun k => v.ownBlock = some k) v l := Kd.R_of_own (Kd.own_of_R h) (fun k hk => hk)
  refine Kd.R_mono (Kd.R_step (Kd.R_bound h') (fun k hk hlt => ?_)) (fun _ _ => trivial)
  obtain ⟨hown, -, -, q, hq, cells, hcs⟩ := hk
  have : q = 27 := by
    have e : (27 :: (Kd.int .i64).E) = [27] := rfl
    rw [e] at hq
    simpa using hq
  subst this
  exact hc.block k hlt (hS k cells hown hcs)

/-- A tree: its block q, its table's block t, its slots' block g. -/
structure TRE (w : World) (q t g cap : Nat) (xs : List Nk) : Prop where
  blk : w.heap[q]? = some (.cells #[.pointer (some ⟨t, 0, none⟩), .int .i64 rootH] 53 (0, 0))
  nt : NT w t g 64 cap 1 xs
section
variable {w w' : World} {q t g cap : Nat} {xs : List Nk}
theorem TRE.c0 (h : TRE w q t g cap xs) : w.cell? ⟨q, 0, none⟩ = some (.pointer (some ⟨t, 0, none⟩)) := by simp [World.cell?, h.blk]
theorem TRE.c1 (h : TRE w q t g cap xs) : w.cell? ⟨q, 1, none⟩ = some (.int .i64 rootH) := by simp [World.cell?, h.blk]
theorem TRE.lt (h : TRE w q t g cap xs) : q < w.heap.size := (Array.getElem?_eq_some_iff.1 h.blk).1
theorem TRE.ne (h : TRE w q t g cap xs) : q ≠ g := h.nt.row.ty_ne h.blk (by decide)
theorem TRE.chg (h : TRE w q t g cap xs) {S : Nat → Prop} (hc : Chg S w w') (h0 : ¬ S q) (h1 : ¬ S t) (h2 : ¬ S g) : TRE w' q t g cap xs := ⟨hc.heap h.blk h0, h.nt.chg hc h1 h2⟩
theorem TRE.below (h : TRE w q t g cap xs) (hb : Below w.heap.size w w') : TRE w' q t g cap xs := h.chg (Chg.ofBelow hb (fun _ => False)) (fun f => f) (fun f => f) (fun f => f)
theorem TRE.drewN (h : TRE w q t g cap xs) (m : Nat) : TRE (w.drewN m) q t g cap xs := h.below (below_drewN' (Below.refl _ w) m)
theorem TRE.alloc (h : TRE w q t g cap xs) (o : Obj) : TRE (w.alloc o) q t g cap xs := h.below ((Below.refl _ w).alloc (Nat.le_refl _) o)
theorem TRE.put {ys : List Nk} (h : TRE w q t g cap xs) (hc : Chg (fun k => k = g) w w') (ht : NT w' t g 64 cap 1 ys) : TRE w' q t g cap ys := ⟨hc.heap h.blk (fun e => h.ne e), ht⟩
theorem TRE.hnd (h : TRE w q t g cap xs) {k : Nat} {cs : Array Value} (hk : w.heap[k]? = some (.cells cs 27 (0, 0))) : k ≠ q ∧ k ≠ t ∧ k ≠ g := by
  refine ⟨?_, ?_, h.nt.row.ty_ne hk (by decide)⟩
  · rintro rfl
    have := h.blk
    rw [hk] at this
    simp at this
  · rintro rfl
    have := h.nt.blk
    rw [hk] at this
    simp at this
/-- A row of handles turned alone. -/
theorem TRE.row (h : TRE w q t g cap xs) {b : Nat} {v : Value} {l : List Int} (hR : RH w b v l) (hc : Chg (fun k => v.ownBlock = some k) w w') : TRE w' q t g cap xs := by
  have key : ∀ k, v.ownBlock = some k → k ≠ q ∧ k ≠ t ∧ k ≠ g := fun k hk => by
    obtain ⟨-, -, cur, hcur⟩ := rowH_ty hR hk
    exact h.hnd hcur
  exact h.chg hc (fun e => (key _ e).1 rfl) (fun e => (key _ e).2.1 rfl) (fun e => (key _ e).2.2 rfl)
end

end Go.Proofs.Ytgjlkplieoajlaa
