/- Of the text TO0 only what this claim needs (shake.py, this repo's). -/
import Derived.Test.YtgjlkplieoajlaaZTR5
import Derived.Test.YtgjlkplieoajlaaZRd
set_option linter.unusedVariables false
set_option linter.unusedSimpArgs false
namespace Go.Proofs.Ytgjlkplieoajlaa
open Go.RowKit
open Go.Proofs.YtgjlkplieoajlaaW.PrintWords (Kd Drawn0 Kept rd rdOf)
open Go.Proofs.Ytgjlkplieoajlaa.PTreeWhole
set_option maxRecDepth 100000

/-- A row that may be written: ints in blocks of S. -/
def WR (S : Nat → Prop) (W : World) (v : Value) (n : Nat) : Prop := n = 0 ∨ ∃ g cap cur, v = .slice (some ⟨g, 0, none⟩) n cap ∧ S g ∧ W.heap[g]? = some (.cells cur 27 (0, 0)) ∧ ∀ j, j < n → ∃ x, cur[j]? = some (.int .i64 x)
theorem RH.wr {W : World} {b : Nat} {v : Value} {l : List Int} (h : RH W b v l) {S : Nat → Prop} (hS : ∀ m, b ≤ m → m < W.heap.size → S m) : WR S W v l.length := by
  rcases rowH_form h with ⟨-, e⟩ | ⟨g, cap, cur, e, hb, hg, hc⟩
  · exact .inl (by rw [e]; rfl)
  · refine .inr ⟨g, cap, cur, e, hS g hb (Array.getElem?_eq_some_iff.1 hg).1, hg, fun j hj => ?_⟩
    have := hc j l[j] (List.getElem?_eq_getElem hj)
    simp [World.cell?, hg] at this
    exact ⟨l[j], this⟩
theorem WR.below {S : Nat → Prop} {W W' : World} {v : Value} {n : Nat} (h : WR S W v n) (hb : Below W.heap.size W W') : WR S W' v n := by
  rcases h with h | ⟨g, cap, cur, e, h1, h2, h3⟩
  · exact .inl h
  · exact .inr ⟨g, cap, cur, e, h1, blkB h2 hb, h3⟩
theorem WR.at {S : Nat → Prop} {W : World} {A : Option Addr} {n c : Nat} (h : WR S W (.slice A n c) n) {j : Nat} (hj : j < n) : ∃ g x, A = some ⟨g, 0, none⟩ ∧ S g ∧ W.cell? ⟨g, j, none⟩ = some (.int .i64 x) ∧ W.frozen? ⟨g, j, none⟩ = false := by
  rcases h with h | ⟨g, cap, cur, e, h1, h2, h3⟩
  · omega
  · injection e with e1 e2 e3
    obtain ⟨x, hx⟩ := h3 j hj
    exact ⟨g, x, e1, h1, by simp [World.cell?, h2, hx], by simp [World.frozen?, h2]⟩

/-- The row of what is done. -/
def OP3 (w : World) (A : Option Addr) (n : Nat) : Prop := n = 0 ∨ ∃ b o, A = some ⟨b, o, none⟩ ∧ ∀ i, i < n → ∃ k0 k1 k2 : Int,
  w.cell? ⟨b, o + i * 3, none⟩ = some (.int .i64 k0) ∧ w.cell? ⟨b, o + i * 3 + 1, none⟩ = some (.int .i64 k1) ∧ w.cell? ⟨b, o + i * 3 + 2, none⟩ = some (.int .i64 k2)
theorem op3_of_rd {a : Option Addr} {n c : Nat} {w : World} (h : Rd22 w [.slice a n c]) : OP3 w a n ∧ n ≤ c ∧ n ≤ 9223372036854775807 := by
  obtain ⟨a', n', c', e, hc, hm, -, h⟩ := h
  simp only [List.cons.injEq, Value.slice.injEq, and_true] at e
  obtain ⟨rfl, rfl, rfl⟩ := e
  refine ⟨?_, hc, by unfold maxLen at hm; omega⟩
  rcases h with h | ⟨b, o, e, h⟩
  · exact .inl h
  · refine .inr ⟨b, o, e, fun i hi => ?_⟩
    obtain ⟨ce, -, hcell, c0, c1, c2, rfl, ⟨k0, rfl, -⟩, ⟨k1, rfl, -⟩, ⟨k2, rfl, -⟩⟩ := h i hi
    exact ⟨k0, k1, k2, hcell 0 (by omega), hcell 1 (by omega), hcell 2 (by omega)⟩
theorem umod (z m : Int) (h0 : 0 < m) (h1 : m ≤ 1000000) : ∃ r : Nat, wrap64 ((IntKind.u64.wrap z).tmod m) = (r : Int) ∧ (r : Int) < m := by
  have hu : 0 ≤ IntKind.u64.wrap z := by simp only [IntKind.wrap_u64]; omega
  rw [Int.tmod_eq_emod_of_nonneg hu]
  have a := Int.emod_nonneg (IntKind.u64.wrap z) (by omega : m ≠ 0)
  have b := Int.emod_lt_of_pos (IntKind.u64.wrap z) h0
  refine ⟨(IntKind.u64.wrap z % m).toNat, ?_, by omega⟩
  unfold wrap64
  omega
theorem walk_pos (xs : List Nk) (k : Nat) (z : Int) : 1 ≤ (walkF xs k z).length := by
  cases k <;> simp [walkF]
theorem kids_len {xs : List Nk} (h : NM 1 64 xs) (z : Int) : (kidsF xs z).length ≤ 64 := by
  have h1 := kidsK_all xs z (Nat.le_refl (tkN 0 xs).length)
  have h2 := kidsK_len xs z (tkN 0 xs).length
  have h3 := tkN_len xs 0
  have h4 := h.len
  rw [h1] at h2
  omega
theorem chg_baseN {w W : World} {g b : Nat} (h : Chg (fun k => k = g) w W) (hb : b ≤ w.heap.size) (hg : b ≤ g) : Below b w W := h.below hb (fun k e => by omega)

end Go.Proofs.Ytgjlkplieoajlaa
