/- The row of FifoJobs: its statement, out of the walk. Conditions: none of its own. Written by frame.py (this repo's) and turned by nothing. -/
import Derived.Test.YtahaclglkbgpcaaRows
import Derived.Test.YtahaclglkbgpcaaJqC
import Derived.WalkKit
import Derived.ProofKit
import Derived.OpenShut
import Derived.ShutString
import Derived.Deep.Grids
import Derived.ChangeSlices
import Derived.ChangeOld
import Derived.Below
import Derived.SizedLaws
import Derived.Deep.Slices
namespace Go.Proofs.Ytahaclglkbgpcaa.fifoJobsR
open Go.ChangeShapes Go.WideShapes Go.ChangeAt Go.RowKit Go.Deep
open Go.ChangeMaps (open_string shut_string)
set_option linter.unusedVariables false
set_option linter.unusedSimpArgs false
set_option maxRecDepth 100000
theorem own : ownKnob Try.prog.godebug = none := by kernel_rfl
theorem laidOut : laidOutB Try.prog = true := by kernel_rfl
theorem fieldAt {H : Type} {enc : TypeId × Value → H} {w : World} {base : Nat} {spare : Nat → Bool} {held : Bool} {fuel : Nat} {t : TypeId} {cs : List Value} {x : DataW H × List MemPlace} {fs : Array Field} (ht : Try.prog.underlying t = some (.struct fs)) (h : DataW.trod enc Try.prog w base spare held fuel t cs = some x) (i : Nat) (f : Field) (hi : fs[i]? = some f) :
    ∃ m y, DataW.trod enc Try.prog w base spare held m f.type ((cs.drop f.offset).take (Try.prog.cellsOf f.type)) = some y := by
  obtain ⟨xs, n, _, _, _, hlen, hf⟩ := DataW.trod_struct ht h
  have hlt : i < xs.length := by
    rw [hlen]
    rcases Nat.lt_or_ge i fs.size with k | k
    · exact k
    · rw [Array.getElem?_eq_none k] at hi; cases hi
  exact ⟨n, xs[i], by rw [hf i f hi]; exact List.getElem?_eq_getElem hlt⟩
theorem lenOf {H : Type} {enc : TypeId × Value → H} {w : World} {base : Nat} {spare : Nat → Bool} {held : Bool} {fuel : Nat} {t : TypeId} {cs : List Value} {x : DataW H × List MemPlace} {fs : Array Field} (ht : Try.prog.underlying t = some (.struct fs)) (h : DataW.trod enc Try.prog w base spare held fuel t cs = some x) : cs.length = Try.prog.cellsOf t := by
  obtain ⟨xs, n, _, _, hl, _, _⟩ := DataW.trod_struct ht h
  exact hl
theorem cells48 : Try.prog.cellsOf 48 = 4 := by kernel_rfl
theorem cells3 : Try.prog.cellsOf 3 = 1 := by kernel_rfl
theorem rd48 {H : Type} {enc : TypeId × Value → H} {w : World} {base : Nat} {spare : Nat → Bool} {held : Bool} {fuel : Nat} {cs : List Value} {x : DataW H × List MemPlace} (h : DataW.trod enc Try.prog w base spare held fuel 48 cs = some x) :
    ∃ x0 : Int, ∃ x1 : Int, ∃ x2 : Int, ∃ x3 : Int, cs = [.int .i64 x0, .int .i64 x1, .int .i64 x2, .int .i64 x3] ∧ (Lit.int .i64 x0).wf = true ∧ (Lit.int .i64 x1).wf = true ∧ (Lit.int .i64 x2).wf = true ∧ (Lit.int .i64 x3).wf = true := by
  have hl := (lenOf Try.underlying48 h).trans cells48
  obtain ⟨m0, y0, h0⟩ := fieldAt Try.underlying48 h 0 _ rfl
  obtain ⟨m1, y1, h1⟩ := fieldAt Try.underlying48 h 1 _ rfl
  obtain ⟨m2, y2, h2⟩ := fieldAt Try.underlying48 h 2 _ rfl
  obtain ⟨m3, y3, h3⟩ := fieldAt Try.underlying48 h 3 _ rfl
  clear h
  match cs, hl with
  | [c0, c1, c2, c3], _ =>
    have h0 : DataW.trod enc Try.prog w base spare held m0 3 [c0] = some y0 := by simpa [cells3] using h0
    obtain ⟨z0, e0, _, v0⟩ := DataW.trod_int Try.underlying3 h0
    have h1 : DataW.trod enc Try.prog w base spare held m1 3 [c1] = some y1 := by simpa [cells3] using h1
    obtain ⟨z1, e1, _, v1⟩ := DataW.trod_int Try.underlying3 h1
    have h2 : DataW.trod enc Try.prog w base spare held m2 3 [c2] = some y2 := by simpa [cells3] using h2
    obtain ⟨z2, e2, _, v2⟩ := DataW.trod_int Try.underlying3 h2
    have h3 : DataW.trod enc Try.prog w base spare held m3 3 [c3] = some y3 := by simpa [cells3] using h3
    obtain ⟨z3, e3, _, v3⟩ := DataW.trod_int Try.underlying3 h3
    simp only [List.cons.injEq, and_true] at e0 e1 e2 e3
    exact ⟨z0, z1, z2, z3, by simp [e0, e1, e2, e3], v0, v1, v2, v3⟩
set_option maxRecDepth 100000 in
theorem lifted (os : Os) (started : os.Started) (H : Type) (enc : TypeId × Value → H) :
    ReturnsInHanded {} Try.checked os 5 .any (Rows.fifoJobsSpec.pre6 enc Try.prog Try.f5 Rows.fifoJobsRow.domain false) (Rows.fifoJobsSpec.post enc Try.prog Try.f5 false true false false) := by
  refine returnsInHanded_of_change_sized (C := Try.checked) own started (by kernel_rfl) Try.func5
    (ChangeSpec.witness6 (enc := enc) (C := Try.checked) false ⟨#[], #[.slice none 0 0, .int .i64 0], []⟩ 8 (by kernel_rfl) (by kernel_rfl) (by kernel_rfl) (by kernel_rfl)) ?_
  intro W base args ds gs before hval0 hW hcnd hsz0 _
  have hsz : (DataW.weightsEach Try.prog (Try.f5.params.toList ++ Rows.fifoJobsSpec.plain.varTypes Try.prog) (ds ++ gs)).all (· ≤ reachBytes) = true := hsz0
  have hval : ∀ (j : Nat) t v, Try.f5.params[j]? = some t → args[j]? = some v → Value.okWide Try.prog W .any base t v := hval0
  have hW' := hW
  obtain ⟨p, q, hA0, hV, rfl, hfz, hnd⟩ := hW
  have hA : DataW.TrodAll enc Try.prog W 0 (fun _ => true) true Try.f5.params.toList args.toList ds p := hA0
  rw [Try.params5] at hA hval hsz
  obtain ⟨v0, vs0, d0, ds0, p0, q0, hargs, rfl, rfl, h0, r0⟩ := trodAll_cons hA
  obtain ⟨v1, vs1, d1, ds1, p1, q1, rfl, rfl, rfl, h1, r1⟩ := trodAll_cons r0
  obtain ⟨rfl, rfl, rfl⟩ := trodAll_nil r1
  obtain rfl : args = #[v0, v1] := by cases args; simp_all
  obtain ⟨rfl, rfl⟩ := trodVars_none hV
  have k0 := h0
  have lt0 : ∀ x ∈ p0, x.block < W.heap.size := by obtain ⟨m, hm⟩ := k0; exact DataW.trod_lt m _ _ _ hm
  obtain ⟨a0, len0, cap0, rfl⟩ := okWide_slice Try.underlying43 (hval 0 43 v0 rfl rfl)
  obtain ⟨hm0, R0⟩ : len0 ≤ maxLen ∧ (len0 = 0 ∨ ∃ b o, a0 = some ⟨b, o, none⟩ ∧ ∀ i, i < len0 → ∃ (x0 : Int) (x1 : Int) (x2 : Int) (x3 : Int), W.cell? ⟨b, o + i * 4, none⟩ = some (.int .i64 x0) ∧ W.cell? ⟨b, o + i * 4 + 1, none⟩ = some (.int .i64 x1) ∧ W.cell? ⟨b, o + i * 4 + 2, none⟩ = some (.int .i64 x2) ∧ W.cell? ⟨b, o + i * 4 + 3, none⟩ = some (.int .i64 x3) ∧ (Lit.int .i64 x0).wf = true ∧ (Lit.int .i64 x1).wf = true ∧ (Lit.int .i64 x2).wf = true ∧ (Lit.int .i64 x3).wf = true) := by
    obtain ⟨fuel, hf⟩ := h0
    rcases open_slice Try.underlying43 hf with ⟨hcs, _⟩ | ⟨x, l, c, m, n, D, Pl, hcs, _, hl, hm, hmm, _, hx⟩
    · simp [Value.cells] at hcs
      obtain ⟨rfl, rfl, rfl⟩ := hcs
      exact ⟨by simp, Or.inl rfl⟩
    · simp [Value.cells] at hcs
      obtain ⟨rfl, rfl, rfl⟩ := hcs
      refine ⟨by omega, ?_⟩
      by_cases h0 : 0 < len0
      · have hlm : len0 ≤ m := by rw [hmm]; split <;> omega
        rw [cells48] at hx
        obtain ⟨b, off, spot⟩ := x
        have hspot : spot = none := by
          obtain ⟨cs', h1, h2⟩ := hx 0 (by omega)
          obtain ⟨_, hlen, hcell⟩ := World.cells?_some h1
          simpa [Addr.add] using World.cell?_spot ((hcell 0 (by omega)).trans (List.getElem?_eq_getElem (by omega)))
        subst hspot
        refine Or.inr ⟨b, off, rfl, fun j hj => ?_⟩
        obtain ⟨cs', h1, h2⟩ := hx j (by omega)
        obtain ⟨_, hlen, hcell⟩ := World.cells?_some h1
        obtain ⟨x0, x1, x2, x3, rfl, v0, v1, v2, v3⟩ := rd48 h2
        have e0 := hcell 0 (by omega)
        have e1 := hcell 1 (by omega)
        have e2 := hcell 2 (by omega)
        have e3 := hcell 3 (by omega)
        rw [Go.Deep.add_add, Go.WideShapes.add_plain] at e0 e1 e2 e3
        exact ⟨x0, x1, x2, x3, by simpa [Nat.add_assoc] using e0, by simpa [Nat.add_assoc] using e1, by simpa [Nat.add_assoc] using e2, by simpa [Nat.add_assoc] using e3, v0, v1, v2, v3⟩
      · exact Or.inl (by omega)
  have k1 := h1
  have lt1 : ∀ x ∈ p1, x.block < W.heap.size := by obtain ⟨m, hm⟩ := k1; exact DataW.trod_lt m _ _ _ hm
  obtain ⟨a1, rfl, e1d, e1p, w1⟩ := open_int Try.underlying3 (hval 1 3 v1 rfl rfl) h1
  have hwalk := (fjobs_ok a0 len0 cap0 a1 W hm0 (R0.imp id (fun ⟨b, o, e, h⟩ => ⟨b, o, e, fun i hi => let ⟨x0, x1, x2, x3, h0, h1, h2, h3, _⟩ := h i hi; ⟨x0, x1, x2, x3, h0, h1, h2, h3⟩⟩)))
  refine hwalk.mono fun e W' ⟨he, bel⟩ => ?_
  subst he
  clear hwalk
  exact ⟨_, rfl, _, _, _, [], _, [], hW', trodAll_mk1 (shut_bool Try.underlying4 _), (trodAll_cons_mk (Below.trod laidOut (by kernel_rfl) (of_decide_eq_true (by kernel_rfl)) k0 bel lt0) (trodAll_cons_mk (Below.trod laidOut (by kernel_rfl) (of_decide_eq_true (by kernel_rfl)) k1 bel lt1) trodAll_mk0)), rfl, bel.frame _, fun h => by cases h⟩
theorem over : Rows.fifoJobsRow.holds Try.pinned (OpenSpec.ofChange Rows.fifoJobsSpec) :=
  OpenClaim.holds_of_wide 5 Try.f5 rfl rfl rfl rfl rfl rfl rfl ⟨rfl, rfl, rfl, rfl, rfl⟩ rfl rfl rfl rfl rfl (by kernel_rfl) Try.func5 (by kernel_rfl)
    (of_decide_eq_true (by kernel_rfl)) (by unfold Func.isWrapper; first | (rw [if_pos (by decide +kernel)]; kernel_rfl) | (rw [if_neg (by decide +kernel)]; exact ⟨rfl, rfl⟩))
    (fun os started H enc _ => lifted os started H enc)
theorem proved : Rows.FifoJobsSaid := over
#print axioms proved
end Go.Proofs.Ytahaclglkbgpcaa.fifoJobsR
namespace Go.Proofs.Ytahaclglkbgpcaa
theorem fifoJobs_holds : Rows.FifoJobsSaid := fifoJobsR.proved
end Go.Proofs.Ytahaclglkbgpcaa
