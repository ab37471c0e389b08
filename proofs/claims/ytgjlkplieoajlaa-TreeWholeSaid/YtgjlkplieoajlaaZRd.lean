/- Of the text Rd only what this claim needs (shake.py, this repo's). -/
import Derived.Test.YtgjlkplieoajlaaProg
import Derived.WalkKit
import Derived.ProofKit
import Derived.OpenShut
import Derived.ChangeSlices
import Derived.ChangeOld
import Derived.Below
import Derived.SizedLaws
import Derived.Deep.Slices
import Derived.Deep.Grids
set_option linter.unusedVariables false
set_option linter.unusedSimpArgs false
namespace Go.Proofs.Ytgjlkplieoajlaa
open Go.ChangeShapes Go.WideShapes Go.ChangeAt Go.RowKit Go.Deep
set_option maxRecDepth 100000
theorem rd_field {H : Type} {enc : TypeId × Value → H} {w : World} {base : Nat} {spare : Nat → Bool} {held : Bool} {fuel : Nat} {t : TypeId} {cs : List Value} {x : DataW H × List MemPlace} {fs : Array Field} (ht : Try.prog.underlying t = some (.struct fs)) (h : DataW.trod enc Try.prog w base spare held fuel t cs = some x) (hb : ∀ n ∈ x.1.weights Try.prog t, n ≤ reachBytes) (i : Nat) (f : Field) (hi : fs[i]? = some f) :
    ∃ m y, DataW.trod enc Try.prog w base spare held m f.type ((cs.drop f.offset).take (Try.prog.cellsOf f.type)) = some y ∧ ∀ n ∈ y.1.weights Try.prog f.type, n ≤ reachBytes := by
  obtain ⟨xs, n, _, hx, _, hlen, hf⟩ := DataW.trod_struct ht h
  have hlt : i < xs.length := by
    rw [hlen]
    rcases Nat.lt_or_ge i fs.size with k | k
    · exact k
    · rw [Array.getElem?_eq_none k] at hi; cases hi
  refine ⟨n, xs[i], by rw [hf i f hi]; exact List.getElem?_eq_getElem hlt, fun m hm => hb m ?_⟩
  rw [hx]
  simp only [DataW.weights, ht]
  exact DataW.weights_mem_each (j := i) (t := f.type) (d := xs[i].1) (by simp [hi]) (by simp [hlt]) m hm
theorem rd_all {H : Type} {P : Program} {e : TypeId} : ∀ {l : List (DataW H)} {d : DataW H}, d ∈ l → ∀ n ∈ d.weights P e, n ∈ DataW.weightsAll P e l
  | a :: l, d, h, n, hn => by
    simp only [DataW.weightsAll, List.mem_append]
    rcases List.mem_cons.1 h with rfl | h
    · exact Or.inl hn
    · exact Or.inr (rd_all h n hn)
theorem rd_len {H : Type} {enc : TypeId × Value → H} {w : World} {base : Nat} {spare : Nat → Bool} {held : Bool} {fuel : Nat} {t : TypeId} {cs : List Value} {x : DataW H × List MemPlace} {fs : Array Field} (ht : Try.prog.underlying t = some (.struct fs)) (h : DataW.trod enc Try.prog w base spare held fuel t cs = some x) : cs.length = Try.prog.cellsOf t := by
  obtain ⟨xs, n, _, _, hl, _, _⟩ := DataW.trod_struct ht h
  exact hl
/-- A slice's cells, element by element. -/
theorem rd_slice {H : Type} {enc : TypeId × Value → H} {w : World} {base : Nat} {held : Bool} {fuel : Nat} {t e : TypeId} {cs : List Value} {x : DataW H × List MemPlace} (ht : Try.prog.underlying t = some (.slice e)) {sz B : Nat} (hsz : Try.prog.cellsOf e = sz) (hs0 : 0 < sz) (hB : Try.prog.bytesOf e = B) (R : List Value → Prop)
    (hR : ∀ (n : Nat) (ce : List Value) (y : DataW H × List MemPlace), DataW.trod enc Try.prog w base (fun _ => true) held n e ce = some y → (∀ n ∈ y.1.weights Try.prog e, n ≤ reachBytes) → ce.length = sz ∧ R ce)
    (h : DataW.trod enc Try.prog w base (fun _ => true) held fuel t cs = some x) (hb : ∀ n ∈ x.1.weights Try.prog t, n ≤ reachBytes) :
    ∃ (a : Option Addr) (n c : Nat), cs = [.slice a n c] ∧ n ≤ c ∧ c ≤ maxLen ∧ n * B ≤ 140737488351232 ∧ (n = 0 ∨ ∃ b o, a = some ⟨b, o, none⟩ ∧ ∀ i, i < n → ∃ ce : List Value, ce.length = sz ∧ (∀ j, j < sz → w.cell? ⟨b, o + i * sz + j, none⟩ = ce[j]?) ∧ R ce) := by
  rcases open_slice ht h with ⟨hcs, _⟩ | ⟨a, l, c, m, n, D, Pl, hcs, _, hl, hm, hmm, hx, hel⟩
  · exact ⟨none, 0, 0, hcs, Nat.le_refl _, by simp, by simp, Or.inl rfl⟩
  · rw [hsz] at hel hx
    have hlm : l ≤ m := by rw [hmm]; simpa using hl
    have hlw : l * B ≤ 140737488351232 := by
      have := hb ((l + (m - l)) * B) (by rw [hx]; simp [DataW.weights, ht, hB])
      have e : reachBytes = 140737488351232 := by decide
      rw [e] at this
      exact Nat.le_trans (Nat.mul_le_mul_right B (by omega)) this
    refine ⟨some a, l, c, hcs, hl, hm, hlw, ?_⟩
    by_cases h0 : l = 0
    · exact Or.inl h0
    · obtain ⟨b, off, spot⟩ := a
      have hspot : spot = none := by
        obtain ⟨cs', h1, h2⟩ := hel 0 (by omega)
        obtain ⟨_, hlen, hcell⟩ := World.cells?_some h1
        simpa [Addr.add] using World.cell?_spot ((hcell 0 (by omega)).trans (List.getElem?_eq_getElem (by omega)))
      subst hspot
      refine Or.inr ⟨b, off, rfl, fun j hj => ?_⟩
      obtain ⟨cs', h1, h2⟩ := hel j (by omega)
      obtain ⟨_, hlen, hcell⟩ := World.cells?_some h1
      obtain ⟨r1, r2⟩ := hR n cs' _ h2 (fun k hk => hb k (by
        rw [hx]
        simp only [DataW.weights, ht, List.mem_cons, List.mem_append]
        exact Or.inr (Or.inl (rd_all (List.mem_map.2 ⟨j, List.mem_range.2 hj, rfl⟩) k hk))))
      refine ⟨cs', r1, fun q hq => ?_, r2⟩
      have := hcell q (by omega)
      rw [Go.Deep.add_add, Go.WideShapes.add_plain] at this
      rw [← this]
      simp [Nat.add_assoc]
def Rd3 (w : World) (cs : List Value) : Prop := ∃ z : Int, cs = [.int .i64 z] ∧ (Lit.int .i64 z).wf = true
theorem cellsR3 : Try.prog.cellsOf 3 = 1 := by kernel_rfl
theorem rd3 {H : Type} {enc : TypeId × Value → H} {w : World} {base : Nat} {held : Bool} {fuel : Nat} {cs : List Value} {x : DataW H × List MemPlace} (h : DataW.trod enc Try.prog w base (fun _ => true) held fuel 3 cs = some x) (hb : ∀ n ∈ x.1.weights Try.prog 3, n ≤ reachBytes) : Rd3 w cs := by
  obtain ⟨z, e, _, v⟩ := DataW.trod_int Try.underlying3 h
  exact ⟨z, e, v⟩
theorem len3 {w : World} {cs : List Value} (h : Rd3 w cs) : cs.length = 1 := by
  obtain ⟨z, rfl, _⟩ := h; rfl
def Rd27 (w : World) (cs : List Value) : Prop := ∃ z : Int, cs = [.int .i64 z] ∧ (Lit.int .i64 z).wf = true
theorem cellsR27 : Try.prog.cellsOf 27 = 1 := by kernel_rfl
theorem rd27 {H : Type} {enc : TypeId × Value → H} {w : World} {base : Nat} {held : Bool} {fuel : Nat} {cs : List Value} {x : DataW H × List MemPlace} (h : DataW.trod enc Try.prog w base (fun _ => true) held fuel 27 cs = some x) (hb : ∀ n ∈ x.1.weights Try.prog 27, n ≤ reachBytes) : Rd27 w cs := by
  obtain ⟨z, e, _, v⟩ := DataW.trod_int Try.underlying27 h
  exact ⟨z, e, v⟩
theorem len27 {w : World} {cs : List Value} (h : Rd27 w cs) : cs.length = 1 := by
  obtain ⟨z, rfl, _⟩ := h; rfl
def Rd34 (w : World) (cs : List Value) : Prop := ∃ c0 c1 c2 : List Value, cs = c0 ++ (c1 ++ (c2)) ∧ Rd3 w c0 ∧ Rd27 w c1 ∧ Rd27 w c2
theorem cellsR34 : Try.prog.cellsOf 34 = 3 := by kernel_rfl
theorem rd34 {H : Type} {enc : TypeId × Value → H} {w : World} {base : Nat} {held : Bool} {fuel : Nat} {cs : List Value} {x : DataW H × List MemPlace} (h : DataW.trod enc Try.prog w base (fun _ => true) held fuel 34 cs = some x) (hb : ∀ n ∈ x.1.weights Try.prog 34, n ≤ reachBytes) : Rd34 w cs := by
  have hl := (rd_len Try.underlying34 h).trans cellsR34
  obtain ⟨m0, y0, h0, b0⟩ := rd_field Try.underlying34 h hb 0 _ rfl
  obtain ⟨m1, y1, h1, b1⟩ := rd_field Try.underlying34 h hb 1 _ rfl
  obtain ⟨m2, y2, h2, b2⟩ := rd_field Try.underlying34 h hb 2 _ rfl
  match cs, hl with
  | [c0, c1, c2], _ =>
    have k0 : DataW.trod enc Try.prog w base (fun _ => true) held m0 3 [c0] = some y0 := by simpa [cellsR3] using h0
    have k1 : DataW.trod enc Try.prog w base (fun _ => true) held m1 27 [c1] = some y1 := by simpa [cellsR27] using h1
    have k2 : DataW.trod enc Try.prog w base (fun _ => true) held m2 27 [c2] = some y2 := by simpa [cellsR27] using h2
    exact ⟨[c0], [c1], [c2], rfl, rd3 k0 b0, rd27 k1 b1, rd27 k2 b2⟩
theorem len34 {w : World} {cs : List Value} (h : Rd34 w cs) : cs.length = 3 := by
  obtain ⟨c0, c1, c2, rfl, h0, h1, h2⟩ := h
  simp [len3 h0, len27 h1, len27 h2]
def Rd22 (w : World) (cs : List Value) : Prop := ∃ (a : Option Addr) (n c : Nat), cs = [.slice a n c] ∧ n ≤ c ∧ c ≤ maxLen ∧ n * 24 ≤ 140737488351232 ∧ (n = 0 ∨ ∃ b o, a = some ⟨b, o, none⟩ ∧ ∀ i, i < n → ∃ ce : List Value, ce.length = 3 ∧ (∀ j, j < 3 → w.cell? ⟨b, o + i * 3 + j, none⟩ = ce[j]?) ∧ Rd34 w ce)
theorem rd22 {H : Type} {enc : TypeId × Value → H} {w : World} {base : Nat} {held : Bool} {fuel : Nat} {cs : List Value} {x : DataW H × List MemPlace} (h : DataW.trod enc Try.prog w base (fun _ => true) held fuel 22 cs = some x) (hb : ∀ n ∈ x.1.weights Try.prog 22, n ≤ reachBytes) : Rd22 w cs := by
  exact rd_slice Try.underlying22 cellsR34 (by decide) (show Try.prog.bytesOf 34 = 24 by kernel_rfl) (Rd34 w) (fun n ce y k kb => ⟨len34 (rd34 k kb), rd34 k kb⟩) h hb
end Go.Proofs.Ytgjlkplieoajlaa
