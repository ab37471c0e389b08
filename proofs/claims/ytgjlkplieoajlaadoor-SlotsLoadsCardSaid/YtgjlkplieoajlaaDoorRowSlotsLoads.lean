/- The row of SlotsLoads: its statement, out of the walk. Conditions: none of its own. Written by frame.py (this repo's) and turned by nothing. -/
import Derived.Test.YtgjlkplieoajlaaDoorRows
import Derived.Test.YtgjlkplieoajlaaDoorSn5
import Derived.WalkKit
import Derived.ProofKit
import Derived.OpenShut
import Derived.ShutString
import Derived.Deep.Grids
import Derived.ChangeSlices
import Derived.ChangeOld
import Derived.Below
import Derived.SizedLaws
import Derived.Deep.Slices
import Derived.Test.YtgjlkplieoajlaaDoorCards
import Derived.Test.YtgjlkplieoajlaaDoorTie
import Derived.ChangeSame
import Derived.ChangeVars
import Derived.JoinedOf
import Derived.RowKit
import Derived.RowKitTokens
import Derived.LaidLaws
import Derived.LaidHandle
import Derived.Stop.Joined
import Derived.SevenTiedAt
import Derived.Handed
namespace Go.Proofs.YtgjlkplieoajlaaDoor.slotsLoadsR
open Go.ChangeShapes Go.WideShapes Go.ChangeAt Go.RowKit Go.Deep
open Go.ChangeMaps (open_string shut_string)
set_option linter.unusedVariables false
set_option linter.unusedSimpArgs false
set_option maxRecDepth 100000
theorem own : ownKnob Tryd.prog.godebug = none := by kernel_rfl
theorem laidOut : laidOutB Tryd.prog = true := by kernel_rfl
theorem fieldAt {H : Type} {enc : TypeId × Value → H} {w : World} {base : Nat} {spare : Nat → Bool} {held : Bool} {fuel : Nat} {t : TypeId} {cs : List Value} {x : DataW H × List MemPlace} {fs : Array Field} (ht : Tryd.prog.underlying t = some (.struct fs)) (h : DataW.trod enc Tryd.prog w base spare held fuel t cs = some x) (i : Nat) (f : Field) (hi : fs[i]? = some f) :
    ∃ m y, DataW.trod enc Tryd.prog w base spare held m f.type ((cs.drop f.offset).take (Tryd.prog.cellsOf f.type)) = some y := by
  obtain ⟨xs, n, _, _, _, hlen, hf⟩ := DataW.trod_struct ht h
  have hlt : i < xs.length := by
    rw [hlen]
    rcases Nat.lt_or_ge i fs.size with k | k
    · exact k
    · rw [Array.getElem?_eq_none k] at hi; cases hi
  exact ⟨n, xs[i], by rw [hf i f hi]; exact List.getElem?_eq_getElem hlt⟩
theorem lenOf {H : Type} {enc : TypeId × Value → H} {w : World} {base : Nat} {spare : Nat → Bool} {held : Bool} {fuel : Nat} {t : TypeId} {cs : List Value} {x : DataW H × List MemPlace} {fs : Array Field} (ht : Tryd.prog.underlying t = some (.struct fs)) (h : DataW.trod enc Tryd.prog w base spare held fuel t cs = some x) : cs.length = Tryd.prog.cellsOf t := by
  obtain ⟨xs, n, _, _, hl, _, _⟩ := DataW.trod_struct ht h
  exact hl
theorem cells3 : Tryd.prog.cellsOf 3 = 1 := by kernel_rfl
theorem rs27 {H : Type} {enc : TypeId × Value → H} {w : World} {base : Nat} {held : Bool} {fuel : Nat} {cs : List Value} {x : DataW H × List MemPlace} (h : DataW.trod enc Tryd.prog w base (fun _ => true) held fuel 27 cs = some x) :
    ∃ a : Option Addr, ∃ n : Nat, ∃ c : Nat, ∃ z : List Int, cs = [.slice a n c] ∧ (n ≤ c ∧ n ≤ maxLen ∧ z.length = n ∧ (0 < n → ∃ ad, a = some ad ∧ ∀ i, i < n → w.cell? (ad.add i) = some (.int .i64 (z.getD i 0)))) := by
  rcases open_ints Tryd.underlying27 Tryd.underlying3 cells3 h with ⟨hcs, _⟩ | ⟨x, l, c, zs, hcs, _, hl, hm, hz, _, hcell, _⟩
  · exact ⟨none, 0, 0, [], hcs, Nat.le_refl _, by simp, rfl, fun h => absurd h (Nat.lt_irrefl 0)⟩
  · simp only [if_true] at hz
    refine ⟨some x, l, c, zs.take l, hcs, hl, by omega, by simp; omega, fun _ => ⟨x, rfl, fun j hj => ?_⟩⟩
    rw [hcell j (by omega)]
    simp [List.getD_eq_getElem?_getD, List.getElem?_take, hj]
theorem cells4 : Tryd.prog.cellsOf 4 = 1 := by kernel_rfl
theorem rs28 {H : Type} {enc : TypeId × Value → H} {w : World} {base : Nat} {held : Bool} {fuel : Nat} {cs : List Value} {x : DataW H × List MemPlace} (h : DataW.trod enc Tryd.prog w base (fun _ => true) held fuel 28 cs = some x) :
    ∃ a : Option Addr, ∃ n : Nat, ∃ c : Nat, ∃ z : List Bool, cs = [.slice a n c] ∧ (n ≤ c ∧ n ≤ maxLen ∧ z.length = n ∧ (0 < n → ∃ ad, a = some ad ∧ ∀ i, i < n → w.cell? (ad.add i) = some (.bool (z.getD i false)))) := by
  rcases open_bools Tryd.underlying28 Tryd.underlying4 cells4 h with ⟨hcs, _⟩ | ⟨x, l, c, B, hcs, _, hl, hm, _, hcell⟩
  · exact ⟨none, 0, 0, [], hcs, Nat.le_refl _, by simp, rfl, fun h => absurd h (Nat.lt_irrefl 0)⟩
  · refine ⟨some x, l, c, (List.range l).map B, hcs, hl, by omega, by simp, fun _ => ⟨x, rfl, fun j hj => ?_⟩⟩
    rw [hcell j (by omega)]
    simp [hj]
theorem cells55 : Tryd.prog.cellsOf 55 = 4 := by kernel_rfl
theorem cells27 : Tryd.prog.cellsOf 27 = 1 := by kernel_rfl
theorem cells28 : Tryd.prog.cellsOf 28 = 1 := by kernel_rfl
theorem rd55 {H : Type} {enc : TypeId × Value → H} {w : World} {base : Nat} {held : Bool} {fuel : Nat} {cs : List Value} {x : DataW H × List MemPlace} (h : DataW.trod enc Tryd.prog w base (fun _ => true) held fuel 55 cs = some x) :
    ∃ x0 : Int, ∃ x1 : Option Addr, ∃ x1n : Nat, ∃ x1c : Nat, ∃ x1z : List Int, ∃ x2 : Option Addr, ∃ x2n : Nat, ∃ x2c : Nat, ∃ x2z : List Bool, ∃ x3 : Option Addr, ∃ x3n : Nat, ∃ x3c : Nat, ∃ x3z : List Int, cs = [.int .i64 x0, .slice x1 x1n x1c, .slice x2 x2n x2c, .slice x3 x3n x3c] ∧ (Lit.int .i64 x0).wf = true ∧ (x1n ≤ x1c ∧ x1n ≤ maxLen ∧ x1z.length = x1n ∧ (0 < x1n → ∃ ad, x1 = some ad ∧ ∀ i, i < x1n → w.cell? (ad.add i) = some (.int .i64 (x1z.getD i 0)))) ∧ (x2n ≤ x2c ∧ x2n ≤ maxLen ∧ x2z.length = x2n ∧ (0 < x2n → ∃ ad, x2 = some ad ∧ ∀ i, i < x2n → w.cell? (ad.add i) = some (.bool (x2z.getD i false)))) ∧ (x3n ≤ x3c ∧ x3n ≤ maxLen ∧ x3z.length = x3n ∧ (0 < x3n → ∃ ad, x3 = some ad ∧ ∀ i, i < x3n → w.cell? (ad.add i) = some (.int .i64 (x3z.getD i 0)))) := by
  have hl := (lenOf Tryd.underlying55 h).trans cells55
  obtain ⟨m0, y0, h0⟩ := fieldAt Tryd.underlying55 h 0 _ rfl
  obtain ⟨m1, y1, h1⟩ := fieldAt Tryd.underlying55 h 1 _ rfl
  obtain ⟨m2, y2, h2⟩ := fieldAt Tryd.underlying55 h 2 _ rfl
  obtain ⟨m3, y3, h3⟩ := fieldAt Tryd.underlying55 h 3 _ rfl
  clear h
  match cs, hl with
  | [c0, c1, c2, c3], _ =>
    have h0 : DataW.trod enc Tryd.prog w base (fun _ => true) held m0 3 [c0] = some y0 := by simpa [cells3] using h0
    obtain ⟨z0, e0, _, v0⟩ := DataW.trod_int Tryd.underlying3 h0
    have h1 : DataW.trod enc Tryd.prog w base (fun _ => true) held m1 27 [c1] = some y1 := by simpa [cells27] using h1
    obtain ⟨z1, z1n, z1c, z1z, e1, v1⟩ := rs27 h1
    have h2 : DataW.trod enc Tryd.prog w base (fun _ => true) held m2 28 [c2] = some y2 := by simpa [cells28] using h2
    obtain ⟨z2, z2n, z2c, z2z, e2, v2⟩ := rs28 h2
    have h3 : DataW.trod enc Tryd.prog w base (fun _ => true) held m3 27 [c3] = some y3 := by simpa [cells27] using h3
    obtain ⟨z3, z3n, z3c, z3z, e3, v3⟩ := rs27 h3
    simp only [List.cons.injEq, and_true] at e0 e1 e2 e3
    exact ⟨z0, z1, z1n, z1c, z1z, z2, z2n, z2c, z2z, z3, z3n, z3c, z3z, by simp [e0, e1, e2, e3], v0, v1, v2, v3⟩
theorem cells41 : Tryd.prog.cellsOf 41 = 3 := by kernel_rfl
theorem cells39 : Tryd.prog.cellsOf 39 = 1 := by kernel_rfl
theorem rd41 {H : Type} {enc : TypeId × Value → H} {w : World} {base : Nat} {spare : Nat → Bool} {held : Bool} {fuel : Nat} {cs : List Value} {x : DataW H × List MemPlace} (h : DataW.trod enc Tryd.prog w base spare held fuel 41 cs = some x) :
    ∃ x0 : Int, ∃ x1 : Int, ∃ x2 : Int, cs = [.int .i64 x0, .int .i64 x1, .int .i64 x2] ∧ (Lit.int .i64 x0).wf = true ∧ (Lit.int .i64 x1).wf = true ∧ (Lit.int .i64 x2).wf = true := by
  have hl := (lenOf Tryd.underlying41 h).trans cells41
  obtain ⟨m0, y0, h0⟩ := fieldAt Tryd.underlying41 h 0 _ rfl
  obtain ⟨m1, y1, h1⟩ := fieldAt Tryd.underlying41 h 1 _ rfl
  obtain ⟨m2, y2, h2⟩ := fieldAt Tryd.underlying41 h 2 _ rfl
  clear h
  match cs, hl with
  | [c0, c1, c2], _ =>
    have h0 : DataW.trod enc Tryd.prog w base spare held m0 3 [c0] = some y0 := by simpa [cells3] using h0
    obtain ⟨z0, e0, _, v0⟩ := DataW.trod_int Tryd.underlying3 h0
    have h1 : DataW.trod enc Tryd.prog w base spare held m1 39 [c1] = some y1 := by simpa [cells39] using h1
    obtain ⟨z1, e1, _, v1⟩ := DataW.trod_int Tryd.underlying39 h1
    have h2 : DataW.trod enc Tryd.prog w base spare held m2 3 [c2] = some y2 := by simpa [cells3] using h2
    obtain ⟨z2, e2, _, v2⟩ := DataW.trod_int Tryd.underlying3 h2
    simp only [List.cons.injEq, and_true] at e0 e1 e2
    exact ⟨z0, z1, z2, by simp [e0, e1, e2], v0, v1, v2⟩
theorem et : Tryd.prog.globalNamed "errors.errorType" = some 0 := by kernel_rfl
theorem rt : (Tryd.prog.cutTypes.find? (·.1 == "internal/reflectlite.rtype")).map (·.2) = some 161 := by kernel_rfl
theorem oneRow : ((List.range 208).filter fun t => Tryd.prog.rowNamed t [101, 114, 114, 111, 114]) = [24] := by kernel_rfl
theorem size : Tryd.prog.types.size = 208 := by kernel_rfl
theorem handle_of_laid {W : World} (h : laidMetH Tryd.prog [("errors.errorType", Rows.laid_errors_errorType)] W) : W.cell? ⟨0, 0, none⟩ = some (.iface 161 (.agg #[.pointer (some ⟨1, 24, none⟩)])) := by
  have h' : laidMet Tryd.prog [] W ∧ handlesMet Tryd.prog [("errors.errorType", Rows.laid_errors_errorType)] W := h
  obtain ⟨name, u, ty, e1, e2, e3, e4, e5⟩ := h'.2 _ (List.mem_singleton.2 rfl)
  have en : name = [101, 114, 114, 111, 114] := (Option.some.inj e1).symm
  subst en
  obtain rfl := Option.some.inj (rt.symm.trans e2)
  have hm : ty ∈ (List.range 208).filter fun t => Tryd.prog.rowNamed t [101, 114, 114, 111, 114] := List.mem_filter.2 ⟨List.mem_range.2 (by rw [← size]; exact e3), e4⟩
  rw [oneRow] at hm
  obtain rfl := List.mem_singleton.1 hm
  have hh : typeHandle Tryd.prog 24 = .pointer (some ⟨1, 24, none⟩) := by kernel_rfl
  rw [hh] at e5
  simpa using World.var?_cell et e5 0
noncomputable def laidWorld (os : Os) : World :=
  let w0 := World.holding Tryd.prog os ⟨#[], #[], []⟩
  { w0 with heap := w0.heap.modify 0 fun
      | .cells _ t frozen => .cells #[.iface 161 (.agg #[.pointer (some ⟨1, 24, none⟩)])] t frozen
      | o => o }
theorem laidWorld_met (os : Os) (args : Array Value) : laidMetH Tryd.prog [("errors.errorType", Rows.laid_errors_errorType)] ((laidWorld os).forCall (fun _ _ => 0) ⟨#[], args, []⟩).memory :=
  laidMetH_of_parts (laidMet_nil _ _) (by kernel_rfl)
set_option maxRecDepth 100000 in
theorem lifted (os : Os) (started : os.Started) (H : Type) (enc : TypeId × Value → H) :
    ReturnsInHanded {} Tryd.checked os 6 .any (fun w args => (Rows.slotsLoadsSpec.pre enc Tryd.prog Tryd.f6 [] false w args ∧ laidMetH Tryd.prog [("errors.errorType", Rows.laid_errors_errorType)] w) ∧ sizedMet enc Tryd.prog Tryd.f6 (OpenSpec.ofChange Rows.slotsLoadsSpec) false w args) (Rows.slotsLoadsSpec.post enc Tryd.prog Tryd.f6 false true false false) := by
  refine returnsInHanded_of_change_and (C := Tryd.checked) (X := fun w _ => laidMetH Tryd.prog [("errors.errorType", Rows.laid_errors_errorType)] w) (fun _ _ _ hh h => h.of_heap hh) own started (by kernel_rfl) Tryd.func6
    (ChangeSpec.witness_at (enc := enc) (C := Tryd.checked) (os := os) (X := fun w _ => laidMetH Tryd.prog [("errors.errorType", Rows.laid_errors_errorType)] w) false (laidWorld os) #[.agg #[.int .i64 0, .slice none 0 0, .slice none 0 0, .slice none 0 0], .slice none 0 0] 8 rfl (by kernel_rfl) (by kernel_rfl) (by kernel_rfl) (by kernel_rfl) (by kernel_rfl) (laidWorld_met os _)) ?_
  intro W base args ds gs before hval0 hW hcnd hsz0 hL _
  have hg := handle_of_laid hL
  have hsz : (DataW.weightsEach Tryd.prog (Tryd.f6.params.toList ++ Rows.slotsLoadsSpec.plain.varTypes Tryd.prog) (ds ++ gs)).all (· ≤ reachBytes) = true := hsz0
  have hval : ∀ (j : Nat) t v, Tryd.f6.params[j]? = some t → args[j]? = some v → Value.okWide Tryd.prog W .any base t v := hval0
  have hW' := hW
  obtain ⟨p, q, hA0, hV, rfl, hfz, hnd⟩ := hW
  have hA : DataW.TrodAll enc Tryd.prog W 0 (fun _ => true) true Tryd.f6.params.toList args.toList ds p := hA0
  rw [Tryd.params6] at hA hval hsz
  obtain ⟨v0, vs0, d0, ds0, p0, q0, hargs, rfl, rfl, h0, r0⟩ := trodAll_cons hA
  obtain ⟨v1, vs1, d1, ds1, p1, q1, rfl, rfl, rfl, h1, r1⟩ := trodAll_cons r0
  obtain ⟨rfl, rfl, rfl⟩ := trodAll_nil r1
  obtain rfl : args = #[v0, v1] := by cases args; simp_all
  obtain ⟨rfl, rfl⟩ := trodVars_none hV
  have k0 := h0
  have lt0 : ∀ x ∈ p0, x.block < W.heap.size := by obtain ⟨m, hm⟩ := k0; exact DataW.trod_lt m _ _ _ hm
  obtain ⟨cs0, rfl, hs0⟩ := okWide_struct Tryd.underlying55 (hval 0 55 v0 rfl rfl)
  obtain ⟨fuel0, hf0⟩ := h0
  obtain ⟨a0_0, a0_1, n0_1, c0_1, z0_1, a0_2, n0_2, c0_2, z0_2, a0_3, n0_3, c0_3, z0_3, ec0, w0_0, w0_1, w0_2, w0_3⟩ := rd55 hf0
  obtain rfl : cs0 = #[.int .i64 a0_0, .slice a0_1 n0_1 c0_1, .slice a0_2 n0_2 c0_2, .slice a0_3 n0_3 c0_3] := by cases cs0; simpa [Value.cells] using ec0
  have k1 := h1
  have lt1 : ∀ x ∈ p1, x.block < W.heap.size := by obtain ⟨m, hm⟩ := k1; exact DataW.trod_lt m _ _ _ hm
  obtain ⟨a1, len1, cap1, rfl⟩ := okWide_slice Tryd.underlying37 (hval 1 37 v1 rfl rfl)
  obtain ⟨hm1, R1⟩ : len1 ≤ maxLen ∧ (len1 = 0 ∨ ∃ b o, a1 = some ⟨b, o, none⟩ ∧ ∀ i, i < len1 → ∃ (x0 : Int) (x1 : Int) (x2 : Int), W.cell? ⟨b, o + i * 3, none⟩ = some (.int .i64 x0) ∧ W.cell? ⟨b, o + i * 3 + 1, none⟩ = some (.int .i64 x1) ∧ W.cell? ⟨b, o + i * 3 + 2, none⟩ = some (.int .i64 x2) ∧ (Lit.int .i64 x0).wf = true ∧ (Lit.int .i64 x1).wf = true ∧ (Lit.int .i64 x2).wf = true) := by
    obtain ⟨fuel, hf⟩ := h1
    rcases open_slice Tryd.underlying37 hf with ⟨hcs, _⟩ | ⟨x, l, c, m, n, D, Pl, hcs, _, hl, hm, hmm, _, hx⟩
    · simp [Value.cells] at hcs
      obtain ⟨rfl, rfl, rfl⟩ := hcs
      exact ⟨by simp, Or.inl rfl⟩
    · simp [Value.cells] at hcs
      obtain ⟨rfl, rfl, rfl⟩ := hcs
      refine ⟨by omega, ?_⟩
      by_cases h0 : 0 < len1
      · have hlm : len1 ≤ m := by rw [hmm]; split <;> omega
        rw [cells41] at hx
        obtain ⟨b, off, spot⟩ := x
        have hspot : spot = none := by
          obtain ⟨cs', h1, h2⟩ := hx 0 (by omega)
          obtain ⟨_, hlen, hcell⟩ := World.cells?_some h1
          simpa [Addr.add] using World.cell?_spot ((hcell 0 (by omega)).trans (List.getElem?_eq_getElem (by omega)))
        subst hspot
        refine Or.inr ⟨b, off, rfl, fun j hj => ?_⟩
        obtain ⟨cs', h1, h2⟩ := hx j (by omega)
        obtain ⟨_, hlen, hcell⟩ := World.cells?_some h1
        obtain ⟨x0, x1, x2, rfl, v0, v1, v2⟩ := rd41 h2
        have e0 := hcell 0 (by omega)
        have e1 := hcell 1 (by omega)
        have e2 := hcell 2 (by omega)
        rw [Go.Deep.add_add, Go.WideShapes.add_plain] at e0 e1 e2
        exact ⟨x0, x1, x2, by simpa [Nat.add_assoc] using e0, by simpa [Nat.add_assoc] using e1, by simpa [Nat.add_assoc] using e2, v0, v1, v2⟩
      · exact Or.inl (by omega)
  have hwalk := loads_ok a0_0 a1 len1 cap1 W (ldA_of w0_1 w0_2 w0_3) hm1 (R1.imp id (fun ⟨b, o, e, h⟩ => ⟨b, o, e, fun i hi => let ⟨x0, x1, x2, h0, h1, h2, _⟩ := h i hi; ⟨x0, x1, x2, h0, h1, h2⟩⟩)) hg
  refine hwalk.mono fun e W' ⟨he, bel⟩ => ?_
  subst he
  clear hwalk
  exact ⟨_, rfl, _, _, _, [], _, [], hW', trodAll_mk1 (shut_bool Tryd.underlying4 _), (trodAll_cons_mk (Below.trod laidOut (by kernel_rfl) (of_decide_eq_true (by kernel_rfl)) k0 bel lt0) (trodAll_cons_mk (Below.trod laidOut (by kernel_rfl) (of_decide_eq_true (by kernel_rfl)) k1 bel lt1) trodAll_mk0)), rfl, bel.frame _, fun h => by cases h⟩
theorem over : Rows.slotsLoadsRow.holds Tryd.pinned (OpenSpec.ofChange Rows.slotsLoadsSpec) :=
  OpenClaim.holds_of_wide 6 Tryd.f6 rfl rfl rfl rfl rfl rfl rfl ⟨rfl, rfl, rfl, rfl, rfl⟩ rfl rfl rfl rfl rfl (by kernel_rfl) Tryd.func6 (by kernel_rfl)
    (of_decide_eq_true (by kernel_rfl)) (by unfold Func.isWrapper; first | (rw [if_pos (by decide +kernel)]; kernel_rfl) | (rw [if_neg (by decide +kernel)]; exact ⟨rfl, rfl⟩))
    (fun os started H enc _ => lifted os started H enc)
theorem card : Rows.SlotsLoadsCardSaid :=
  Claim7.holds_tied_plain_at .later [] [.handle] true (true, "d793035f9c390ebfcc712e8d9b3857fb57cf296fd20077a35ab15725331295ec") true
    over (fun _ h => by cases h) (by kernel_rfl) (fun _ h => by cases h) slotsLoads_row_tie rfl ⟨rfl, rfl⟩ (by kernel_rfl) rfl
    (fun f fn hf hfn => by
      obtain rfl : f = 6 := Option.some.inj ((show Tryd.prog.funcNamed "tithe/tithelaw03.SlotsLoads" = some 6 by kernel_rfl).symm.trans hf) |>.symm
      obtain rfl : fn = Tryd.f6 := (Option.some.inj (Tryd.func6.symm.trans hfn)).symm
      exact ⟨by kernel_rfl, fun j t ht => by
        rw [Tryd.params6] at ht
        match j, ht with
        | 0, ht => obtain rfl := Option.some.inj ht; exact (show Tryd.prog.wantsStandIn 55 = false by kernel_rfl)
        | 1, ht => obtain rfl := Option.some.inj ht; exact (show Tryd.prog.wantsStandIn 37 = false by kernel_rfl)
        | j + 2, ht => simp at ht⟩)
    (by kernel_rfl)
#print axioms card
end Go.Proofs.YtgjlkplieoajlaaDoor.slotsLoadsR
namespace Go.Proofs.YtgjlkplieoajlaaDoor
theorem slotsLoads_holds : Rows.SlotsLoadsCardSaid := slotsLoadsR.card
end Go.Proofs.YtgjlkplieoajlaaDoor
