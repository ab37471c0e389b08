/- Of the text Rd only what this claim needs (shake.py, this repo's). -/
import Derived.Test.YtdilediiofenmaaProg
import Derived.WalkKit
import Derived.ProofKit
import Derived.OpenShut
import Derived.ChangeSlices
import Derived.ChangeOld
import Derived.Below
import Derived.SizedLaws
import Derived.Deep.Slices
import Derived.Deep.Grids
set_option linter.unusedVariables false
set_option linter.unusedSimpArgs false
namespace Go.Proofs.Ytdilediiofenmaa
open Go.ChangeShapes Go.WideShapes Go.ChangeAt Go.RowKit Go.Deep
set_option maxRecDepth 100000
theorem rd_field {H : Type} {enc : TypeId × Value → H} {w : World} {base : Nat} {spare : Nat → Bool} {held : Bool} {fuel : Nat} {t : TypeId} {cs : List Value} {x : DataW H × List MemPlace} {fs : Array Field} (ht : Try.prog.underlying t = some (.struct fs)) (h : DataW.trod enc Try.prog w base spare held fuel t cs = some x) (hb : ∀ n ∈ x.1.weights Try.prog t, n ≤ reachBytes) (i : Nat) (f : Field) (hi : fs[i]? = some f) :
    ∃ m y, DataW.trod enc Try.prog w base spare held m f.type ((cs.drop f.offset).take (Try.prog.cellsOf f.type)) = some y ∧ ∀ n ∈ y.1.weights Try.prog f.type, n ≤ reachBytes := by
  obtain ⟨xs, n, _, hx, _, hlen, hf⟩ := DataW.trod_struct ht h
  have hlt : i < xs.length := by
    rw [hlen]
    rcases Nat.lt_or_ge i fs.size with k | k
    · exact k
    · rw [Array.getElem?_eq_none k] at hi; cases hi
  refine ⟨n, xs[i], by rw [hf i f hi]; exact List.getElem?_eq_getElem hlt, fun m hm => hb m ?_⟩
  rw [hx]
  simp only [DataW.weights, ht]
  exact DataW.weights_mem_each (j := i) (t := f.type) (d := xs[i].1) (by simp [hi]) (by simp [hlt]) m hm
theorem rd_len {H : Type} {enc : TypeId × Value → H} {w : World} {base : Nat} {spare : Nat → Bool} {held : Bool} {fuel : Nat} {t : TypeId} {cs : List Value} {x : DataW H × List MemPlace} {fs : Array Field} (ht : Try.prog.underlying t = some (.struct fs)) (h : DataW.trod enc Try.prog w base spare held fuel t cs = some x) : cs.length = Try.prog.cellsOf t := by
  obtain ⟨xs, n, _, _, hl, _, _⟩ := DataW.trod_struct ht h
  exact hl
def Rd3 (w : World) (cs : List Value) : Prop := ∃ z : Int, cs = [.int .i64 z] ∧ (Lit.int .i64 z).wf = true
theorem cellsR3 : Try.prog.cellsOf 3 = 1 := by kernel_rfl
theorem rd3 {H : Type} {enc : TypeId × Value → H} {w : World} {base : Nat} {held : Bool} {fuel : Nat} {cs : List Value} {x : DataW H × List MemPlace} (h : DataW.trod enc Try.prog w base (fun _ => true) held fuel 3 cs = some x) (hb : ∀ n ∈ x.1.weights Try.prog 3, n ≤ reachBytes) : Rd3 w cs := by
  obtain ⟨z, e, _, v⟩ := DataW.trod_int Try.underlying3 h
  exact ⟨z, e, v⟩
def Rd32 (w : World) (cs : List Value) : Prop := ∃ c0 c1 c2 c3 : List Value, cs = c0 ++ (c1 ++ (c2 ++ (c3))) ∧ Rd3 w c0 ∧ Rd3 w c1 ∧ Rd3 w c2 ∧ Rd3 w c3
theorem cellsR32 : Try.prog.cellsOf 32 = 4 := by kernel_rfl
theorem rd32 {H : Type} {enc : TypeId × Value → H} {w : World} {base : Nat} {held : Bool} {fuel : Nat} {cs : List Value} {x : DataW H × List MemPlace} (h : DataW.trod enc Try.prog w base (fun _ => true) held fuel 32 cs = some x) (hb : ∀ n ∈ x.1.weights Try.prog 32, n ≤ reachBytes) : Rd32 w cs := by
  have hl := (rd_len Try.underlying32 h).trans cellsR32
  obtain ⟨m0, y0, h0, b0⟩ := rd_field Try.underlying32 h hb 0 _ rfl
  obtain ⟨m1, y1, h1, b1⟩ := rd_field Try.underlying32 h hb 1 _ rfl
  obtain ⟨m2, y2, h2, b2⟩ := rd_field Try.underlying32 h hb 2 _ rfl
  obtain ⟨m3, y3, h3, b3⟩ := rd_field Try.underlying32 h hb 3 _ rfl
  match cs, hl with
  | [c0, c1, c2, c3], _ =>
    have k0 : DataW.trod enc Try.prog w base (fun _ => true) held m0 3 [c0] = some y0 := by simpa [cellsR3] using h0
    have k1 : DataW.trod enc Try.prog w base (fun _ => true) held m1 3 [c1] = some y1 := by simpa [cellsR3] using h1
    have k2 : DataW.trod enc Try.prog w base (fun _ => true) held m2 3 [c2] = some y2 := by simpa [cellsR3] using h2
    have k3 : DataW.trod enc Try.prog w base (fun _ => true) held m3 3 [c3] = some y3 := by simpa [cellsR3] using h3
    exact ⟨[c0], [c1], [c2], [c3], rfl, rd3 k0 b0, rd3 k1 b1, rd3 k2 b2, rd3 k3 b3⟩
def Rd49 (w : World) (cs : List Value) : Prop := ∃ c0 c1 c2 c3 : List Value, cs = c0 ++ (c1 ++ (c2 ++ (c3))) ∧ Rd3 w c0 ∧ Rd3 w c1 ∧ Rd3 w c2 ∧ Rd32 w c3
theorem cellsR49 : Try.prog.cellsOf 49 = 7 := by kernel_rfl
theorem rd49 {H : Type} {enc : TypeId × Value → H} {w : World} {base : Nat} {held : Bool} {fuel : Nat} {cs : List Value} {x : DataW H × List MemPlace} (h : DataW.trod enc Try.prog w base (fun _ => true) held fuel 49 cs = some x) (hb : ∀ n ∈ x.1.weights Try.prog 49, n ≤ reachBytes) : Rd49 w cs := by
  have hl := (rd_len Try.underlying49 h).trans cellsR49
  obtain ⟨m0, y0, h0, b0⟩ := rd_field Try.underlying49 h hb 0 _ rfl
  obtain ⟨m1, y1, h1, b1⟩ := rd_field Try.underlying49 h hb 1 _ rfl
  obtain ⟨m2, y2, h2, b2⟩ := rd_field Try.underlying49 h hb 2 _ rfl
  obtain ⟨m3, y3, h3, b3⟩ := rd_field Try.underlying49 h hb 3 _ rfl
  match cs, hl with
  | [c0, c1, c2, c3, c4, c5, c6], _ =>
    have k0 : DataW.trod enc Try.prog w base (fun _ => true) held m0 3 [c0] = some y0 := by simpa [cellsR3] using h0
    have k1 : DataW.trod enc Try.prog w base (fun _ => true) held m1 3 [c1] = some y1 := by simpa [cellsR3] using h1
    have k2 : DataW.trod enc Try.prog w base (fun _ => true) held m2 3 [c2] = some y2 := by simpa [cellsR3] using h2
    have k3 : DataW.trod enc Try.prog w base (fun _ => true) held m3 32 [c3, c4, c5, c6] = some y3 := by simpa [cellsR32] using h3
    exact ⟨[c0], [c1], [c2], [c3, c4, c5, c6], rfl, rd3 k0 b0, rd3 k1 b1, rd3 k2 b2, rd32 k3 b3⟩
end Go.Proofs.Ytdilediiofenmaa
