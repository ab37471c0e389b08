/- The law TaskMakes, by contract. Printed by gen_lmake.py (this repo's). -/
import Derived.Test.YtkfjlkpickeobaaDoorTkI
import Derived.Test.YtkfjlkpickeobaaDoorTmE
set_option linter.unusedVariables false
set_option linter.unusedSimpArgs false
namespace Go.Proofs.YtkfjlkpickeobaaDoor
open Go.RowKit
open Go.Proofs.YtkfjlkpickeobaaDoorW.PrintWords (Kd Drawn0 Kept rd rdOf ReadsRow)
open Go.Proofs.YtkfjlkpickeobaaDoor.PTaskRuns
set_option maxRecDepth 100000

/-- What is carried over the last row of calls. -/
structure RM (w0 : World) (Ta Tb D : Tk) (va vb x y : Value) (ba bb bt bu : Nat) (W : World) : Prop where
  a : TX W ba Ta va
  b : TX W bb Tb vb
  x : TX W bt D x
  y : TX W bu D y
  be : Below w0.heap.size w0 W
section
variable {w0 W W' : World} {Ta Tb D : Tk} {va vb x y : Value} {ba bb bt bu : Nat}
theorem RM.below (h : RM w0 Ta Tb D va vb x y ba bb bt bu W) (hb : Below W.heap.size W W') : RM w0 Ta Tb D va vb x y ba bb bt bu W' := ⟨h.a.below hb, h.b.below hb, h.x.below hb, h.y.below hb, below_call h.be (Nat.le_refl _) hb⟩
theorem RM.drew (h : RM w0 Ta Tb D va vb x y ba bb bt bu W) : RM w0 Ta Tb D va vb x y ba bb bt bu W.drew := h.below (below_drewN' (Below.refl _ W) 1)
theorem RM.full (h : RM w0 Ta Tb D va vb x y ba bb bt bu W) : W.cell? ⟨ba, 0, none⟩ = some (.int .i64 Ta.p) ∧ W.cell? ⟨ba, 1, none⟩ = some (va) ∧ W.cell? ⟨ba, 2, none⟩ = some (.int .i64 Ta.g) ∧ W.cell? ⟨ba, 3, none⟩ = some (.int .i64 Ta.o) ∧ W.cell? ⟨ba, 4, none⟩ = some (.int .i64 Ta.l) ∧ W.cell? ⟨ba, 5, none⟩ = some (.int .i64 Ta.d) ∧ W.cell? ⟨ba, 6, none⟩ = some (.int .i64 Ta.c) ∧ W.cell? ⟨ba, 7, none⟩ = some (.int .i64 Ta.t) ∧ W.cell? ⟨bb, 0, none⟩ = some (.int .i64 Tb.p) ∧ W.cell? ⟨bb, 1, none⟩ = some (vb) ∧ W.cell? ⟨bb, 2, none⟩ = some (.int .i64 Tb.g) ∧ W.cell? ⟨bb, 3, none⟩ = some (.int .i64 Tb.o) ∧ W.cell? ⟨bb, 4, none⟩ = some (.int .i64 Tb.l) ∧ W.cell? ⟨bb, 5, none⟩ = some (.int .i64 Tb.d) ∧ W.cell? ⟨bb, 6, none⟩ = some (.int .i64 Tb.c) ∧ W.cell? ⟨bb, 7, none⟩ = some (.int .i64 Tb.t) ∧ W.cell? ⟨bt, 0, none⟩ = some (.int .i64 D.p) ∧ W.cell? ⟨bt, 1, none⟩ = some (x) ∧ W.cell? ⟨bt, 2, none⟩ = some (.int .i64 D.g) ∧ W.cell? ⟨bt, 3, none⟩ = some (.int .i64 D.o) ∧ W.cell? ⟨bt, 4, none⟩ = some (.int .i64 D.l) ∧ W.cell? ⟨bt, 5, none⟩ = some (.int .i64 D.d) ∧ W.cell? ⟨bt, 6, none⟩ = some (.int .i64 D.c) ∧ W.cell? ⟨bt, 7, none⟩ = some (.int .i64 D.t) ∧ W.cell? ⟨bu, 0, none⟩ = some (.int .i64 D.p) ∧ W.cell? ⟨bu, 1, none⟩ = some (y) ∧ W.cell? ⟨bu, 2, none⟩ = some (.int .i64 D.g) ∧ W.cell? ⟨bu, 3, none⟩ = some (.int .i64 D.o) ∧ W.cell? ⟨bu, 4, none⟩ = some (.int .i64 D.l) ∧ W.cell? ⟨bu, 5, none⟩ = some (.int .i64 D.d) ∧ W.cell? ⟨bu, 6, none⟩ = some (.int .i64 D.c) ∧ W.cell? ⟨bu, 7, none⟩ = some (.int .i64 D.t) ∧ RM w0 Ta Tb D va vb x y ba bb bt bu W := by
  obtain ⟨a0, a1, a2, a3, a4, a5, a6, a7⟩ := h.a.t8
  obtain ⟨b0, b1, b2, b3, b4, b5, b6, b7⟩ := h.b.t8
  obtain ⟨c0, c1, c2, c3, c4, c5, c6, c7⟩ := h.x.t8
  obtain ⟨d0, d1, d2, d3, d4, d5, d6, d7⟩ := h.y.t8
  exact ⟨a0, a1, a2, a3, a4, a5, a6, a7, b0, b1, b2, b3, b4, b5, b6, b7, c0, c1, c2, c3, c4, c5, c6, c7, d0, d1, d2, d3, d4, d5, d6, d7, h⟩
end
theorem num_cb' (n : Int) (w : World) : Calls Tryd.prog 14 #[errV n] w fun e w' => e = .returned (.int .i64 n) ∧ Below w.heap.size w w' := (num_c n w).mono fun e w' h => ⟨h.1, by rw [h.2]; exact Below.refl _ _⟩
theorem newF_len (p : Int) : (newF p).1.js.length = 0 := by unfold newF; split <;> rfl

set_option maxHeartbeats 8000000 in
theorem lmakes_ok (p : Int) (Ta Tb : Tk) (va vb : Value) (w : World) (ha : TR w va Ta.js) (hb : TR w vb Tb.js) (hla : Ta.js.length * 32 ≤ 140737488351232) (hlb : Tb.js.length * 32 ≤ 140737488351232) (hi : ItOk okN w.heap.size w) :
    Calls Tryd.prog 8 #[.int .i64 p, Ta.v va, Tb.v vb] w fun e w' => e = .returned (.bool true) ∧ Below w.heap.size w w' := by
  obtain ⟨D, E, hDE⟩ : ∃ (D : Tk) (E : Int), newF p = (D, E) := ⟨_, _, rfl⟩
  have hD0 : D.js.length = 0 := by have := newF_len p; rw [hDE] at this; exact this
  have HDE := Lib.hid hDE
  have HI := Lib.hid hi
  have HLd : Hid (D.js.length ≤ 9223372036854775800) := Lib.hid (by omega)
  have HLa : Hid (Ta.js.length ≤ 9223372036854775800) := Lib.hid (by omega)
  have HLa' := Lib.hid hla
  obtain ⟨Aa, ca, rfl, -, -⟩ := id ha
  obtain ⟨Ab, cb, rfl, -, -⟩ := id hb
  obtain ⟨ba, hba⟩ : ∃ b, b = w.heap.size := ⟨_, rfl⟩
  obtain ⟨bb, hbb⟩ : ∃ b, b = w.heap.size + 1 := ⟨_, rfl⟩
  obtain ⟨W0, hW0⟩ : ∃ y, y = (w.alloc (.cells #[.int .i64 Ta.p, .slice Aa Ta.js.length ca, .int .i64 Ta.g, .int .i64 Ta.o, .int .i64 Ta.l, .int .i64 Ta.d, .int .i64 Ta.c, .int .i64 Ta.t] 26)).alloc (.cells #[.int .i64 Tb.p, .slice Ab Tb.js.length cb, .int .i64 Tb.g, .int .i64 Tb.o, .int .i64 Tb.l, .int .i64 Tb.d, .int .i64 Tb.c, .int .i64 Tb.t] 26) := ⟨_, rfl⟩
  have hx : BX w.heap.size w W0 [Ta.cs (.slice Aa Ta.js.length ca), Tb.cs (.slice Ab Tb.js.length cb)] := by rw [hW0]; exact BX.new w [Ta.cs (.slice Aa Ta.js.length ca), Tb.cs (.slice Ab Tb.js.length cb)]
  have HXa : Hid (TX W0 ba Ta (.slice Aa Ta.js.length ca)) := by rw [hba]; exact Lib.hid ⟨hx.bx 0 _ rfl, ha.below hx.be⟩
  have HXb : Hid (TX W0 bb Tb (.slice Ab Tb.js.length cb)) := by rw [hbb]; exact Lib.hid ⟨hx.bx 1 _ rfl, hb.below hx.be⟩
  have HBW0 := Lib.hid hx.be
  have HW0 := Lib.hid hW0
  have Hba := Lib.hid hba
  have Hbb := Lib.hid hbb
  have HBW := True.intro
  clear ha hb hla hlb hi hDE hD0 hx hW0 hba hbb
  go_enter Tryd.func8, Tryd.ntmps8
  go_wp2_with fail
  rw [← HW0.out, ← Hbb.out, ← Hba.out]
  refine (tnew_c p _).mono ?_
  rintro e w1 ⟨v1, he, hR, hb⟩
  have HBw1 := Lib.hid (below_call HBW0.out (by first | exact Nat.le_refl _ | (have := HBW.out; omega)) hb)
  replace HXa := Lib.hid (HXa.out.below hb)
  replace HXb := Lib.hid (HXb.out.below hb)
  rw [HDE.out] at he hR
  dsimp only at he hR
  subst he
  obtain ⟨A1, c1, rfl⟩ := Kd.R_slice hR
  clear HBW0
  obtain ⟨bt, hbt⟩ : ∃ y, y = w1.heap.size := ⟨_, rfl⟩
  obtain ⟨Wt, hWt⟩ : ∃ y, y = w1.alloc (.cells (Tk.cs D (.slice A1 D.js.length c1)).1 26) := ⟨_, rfl⟩
  have HPa := HXa
  have HPb := HXb
  replace HXa : Hid (TX Wt ba Ta (.slice Aa Ta.js.length ca)) := by rw [hWt]; exact Lib.hid (HXa.out.alloc _)
  replace HXb : Hid (TX Wt bb Tb (.slice Ab Tb.js.length cb)) := by rw [hWt]; exact Lib.hid (HXb.out.alloc _)
  have HXt : Hid (TX Wt bt D (.slice A1 D.js.length c1)) := by rw [hWt, hbt]; exact Lib.hid (TX.new (TR.of_R hR))
  have HBWt : Hid (Below w.heap.size w Wt) := by rw [hWt]; exact Lib.hid (below_alloc HBw1.out (Nat.le_refl _) _)
  have HWt := Lib.hid hWt
  have Hbt := Lib.hid hbt
  clear hWt hbt HBw1
  clear hb
  go_wp2_with fail
  rw [← HWt.out, ← Hbt.out]
  clear HPa HPb
  refine (rnew_c p _).mono ?_
  rintro e w2 ⟨v2, he, hR, hb⟩
  have HBw2 := Lib.hid (below_call HBWt.out (by first | exact Nat.le_refl _ | (have := HBW.out; omega)) hb)
  replace HXa := Lib.hid (HXa.out.below hb)
  replace HXb := Lib.hid (HXb.out.below hb)
  replace HXt := Lib.hid (HXt.out.below hb)
  rw [HDE.out] at he hR
  dsimp only at he hR
  subst he
  obtain ⟨A2, c2, rfl⟩ := Kd.R_slice hR
  clear HBWt
  obtain ⟨bu, hbu⟩ : ∃ y, y = w2.heap.size := ⟨_, rfl⟩
  obtain ⟨Wu, hWu⟩ : ∃ y, y = w2.alloc (.cells (Tk.cs D (.slice A2 D.js.length c2)).1 26) := ⟨_, rfl⟩
  have HPa := HXa
  have HPb := HXb
  have HPt := HXt
  replace HXa : Hid (TX Wu ba Ta (.slice Aa Ta.js.length ca)) := by rw [hWu]; exact Lib.hid (HXa.out.alloc _)
  replace HXb : Hid (TX Wu bb Tb (.slice Ab Tb.js.length cb)) := by rw [hWu]; exact Lib.hid (HXb.out.alloc _)
  replace HXt : Hid (TX Wu bt D (.slice A1 D.js.length c1)) := by rw [hWu]; exact Lib.hid (HXt.out.alloc _)
  have HXu : Hid (TX Wu bu D (.slice A2 D.js.length c2)) := by rw [hWu, hbu]; exact Lib.hid (TX.new (TR.of_R hR))
  have HBWu : Hid (Below w.heap.size w Wu) := by rw [hWu]; exact Lib.hid (below_alloc HBw2.out (Nat.le_refl _) _)
  have HWu := Lib.hid hWu
  have Hbu := Lib.hid hbu
  clear hWu hbu HBw2
  clear hb
  go_wp2_with fail
  rw [← HWu.out, ← Hbu.out]
  have HQ0 : RM w Ta Tb D (.slice Aa Ta.js.length ca) (.slice Ab Tb.js.length cb) (.slice A1 D.js.length c1) (.slice A2 D.js.length c2) ba bb bt bu Wu := ⟨HXa.out, HXb.out, HXt.out, HXu.out, HBWu.out⟩
  have HF0 := HQ0.full
  go_split_ands
  clear HXa HXb HXt HXu HBWu
  clear HPa HPb HPt
  obtain ⟨N, hN⟩ : ∃ N, N = valF Ta := ⟨_, rfl⟩
  obtain ⟨X, hX⟩ : ∃ X, X = textF Ta := ⟨_, rfl⟩
  obtain ⟨B, hB⟩ : ∃ B, B = sameB Ta Tb := ⟨_, rfl⟩
  have HN := Lib.hid hN
  have HX := Lib.hid hX
  have HB := Lib.hid hB
  clear hN hX hB
  go_region_held3 (fun w' => w'.cell? ⟨ba, 0, none⟩ = some (.int .i64 Ta.p) ∧ w'.cell? ⟨ba, 1, none⟩ = some ((.slice Aa Ta.js.length ca)) ∧ w'.cell? ⟨ba, 2, none⟩ = some (.int .i64 Ta.g) ∧ w'.cell? ⟨ba, 3, none⟩ = some (.int .i64 Ta.o) ∧ w'.cell? ⟨ba, 4, none⟩ = some (.int .i64 Ta.l) ∧ w'.cell? ⟨ba, 5, none⟩ = some (.int .i64 Ta.d) ∧ w'.cell? ⟨ba, 6, none⟩ = some (.int .i64 Ta.c) ∧ w'.cell? ⟨ba, 7, none⟩ = some (.int .i64 Ta.t) ∧ w'.cell? ⟨bb, 0, none⟩ = some (.int .i64 Tb.p) ∧ w'.cell? ⟨bb, 1, none⟩ = some ((.slice Ab Tb.js.length cb)) ∧ w'.cell? ⟨bb, 2, none⟩ = some (.int .i64 Tb.g) ∧ w'.cell? ⟨bb, 3, none⟩ = some (.int .i64 Tb.o) ∧ w'.cell? ⟨bb, 4, none⟩ = some (.int .i64 Tb.l) ∧ w'.cell? ⟨bb, 5, none⟩ = some (.int .i64 Tb.d) ∧ w'.cell? ⟨bb, 6, none⟩ = some (.int .i64 Tb.c) ∧ w'.cell? ⟨bb, 7, none⟩ = some (.int .i64 Tb.t) ∧ w'.cell? ⟨bt, 0, none⟩ = some (.int .i64 D.p) ∧ w'.cell? ⟨bt, 1, none⟩ = some ((.slice A1 D.js.length c1)) ∧ w'.cell? ⟨bt, 2, none⟩ = some (.int .i64 D.g) ∧ w'.cell? ⟨bt, 3, none⟩ = some (.int .i64 D.o) ∧ w'.cell? ⟨bt, 4, none⟩ = some (.int .i64 D.l) ∧ w'.cell? ⟨bt, 5, none⟩ = some (.int .i64 D.d) ∧ w'.cell? ⟨bt, 6, none⟩ = some (.int .i64 D.c) ∧ w'.cell? ⟨bt, 7, none⟩ = some (.int .i64 D.t) ∧ w'.cell? ⟨bu, 0, none⟩ = some (.int .i64 D.p) ∧ w'.cell? ⟨bu, 1, none⟩ = some ((.slice A2 D.js.length c2)) ∧ w'.cell? ⟨bu, 2, none⟩ = some (.int .i64 D.g) ∧ w'.cell? ⟨bu, 3, none⟩ = some (.int .i64 D.o) ∧ w'.cell? ⟨bu, 4, none⟩ = some (.int .i64 D.l) ∧ w'.cell? ⟨bu, 5, none⟩ = some (.int .i64 D.d) ∧ w'.cell? ⟨bu, 6, none⟩ = some (.int .i64 D.c) ∧ w'.cell? ⟨bu, 7, none⟩ = some (.int .i64 D.t) ∧ RM w Ta Tb D (.slice Aa Ta.js.length ca) (.slice Ab Tb.js.length cb) (.slice A1 D.js.length c1) (.slice A2 D.js.length c2) ba bb bt bu w')
    (first
      | (go_split_ands; exact RM.full (RM.below (by assumption) hb))
      | (go_split_ands; exact RM.full (RM.drew (by assumption))))
    (first
      | (go_at_call 13; go_split_ands; (with_reducible refine (same_t D (.slice A1 D.js.length c1) (.slice A2 D.js.length c2) _ (RM.x (by assumption)).tr (RM.y (by assumption)).tr HLd.out).mono ?_); rintro e w' ⟨rfl, hb⟩)
      | (go_at_call 14; go_split_ands; (with_reducible refine (num_cb' E _).mono ?_); rintro e w' ⟨rfl, hb⟩)
      | (go_at_call 14; go_split_ands; (with_reducible refine (num_cb' N _).mono ?_); rintro e w' ⟨rfl, hb⟩)
      | (go_at_call 23; go_split_ands; (with_reducible refine (tvalid_e Ta (.slice Aa Ta.js.length ca) _ (RM.a (by assumption)).tr HLa.out).mono ?_); rw [← HN.out]; rintro e w' ⟨rfl, hb⟩)
      | (go_at_call 25; go_split_ands; (with_reducible refine (rvalid_c Ta (.slice Aa Ta.js.length ca) _ (RM.a (by assumption)).tr HLa.out).mono ?_); rw [show (if Ta.okB = true then (0 : Int) else 270) = N from HN.out.symm]; rintro e w' ⟨rfl, hb⟩)
      | (go_at_call 26; go_split_ands; (with_reducible refine (show_c Ta (.slice Aa Ta.js.length ca) _ (RM.a (by assumption)).tr HLa.out ((HI.out.below (RM.be (by assumption))).mono (RM.be (by assumption)).size)).mono ?_); rw [← HX.out]; rintro e w' ⟨rfl, hb⟩)
      | (go_at_call 27; go_split_ands; (with_reducible refine (rtext_c Ta (.slice Aa Ta.js.length ca) _ (RM.a (by assumption)).tr HLa.out).mono ?_); rw [← HX.out]; rintro e w' ⟨rfl, hb⟩)
      | (go_at_call 28; go_split_ands; (with_reducible refine (tsame_c Ta Tb (.slice Aa Ta.js.length ca) (.slice Ab Tb.js.length cb) _ (RM.a (by assumption)).tr (RM.b (by assumption)).tr HLa.out).mono ?_); rw [← HB.out]; rintro e w' ⟨rfl, hb⟩)
      | (go_at_call 29; go_split_ands; (with_reducible refine (rsame_c Ta Tb (.slice Aa Ta.js.length ca) (.slice Ab Tb.js.length cb) _ (RM.a (by assumption)).tr (RM.b (by assumption)).tr HLa.out).mono ?_); rw [← HB.out]; rintro e w' ⟨rfl, hb⟩)
      | (go_at_call 10; go_split_ands; (with_reducible refine (twin_c Ta (.slice Aa Ta.js.length ca) _ (RM.a (by assumption)).tr HLa'.out).mono ?_); rintro e w' ⟨v9, rfl, hR9, hb⟩; obtain ⟨A9, c9, rfl⟩ := Kd.R_slice hR9; have HR9 := Lib.hid (TR.of_R hR9); clear hR9)
      | (go_at_call 28; go_split_ands; (with_reducible refine (tsame_c Ta Ta (.slice Aa Ta.js.length ca) _ _ (RM.a (by assumption)).tr HR9.out HLa.out).mono ?_); rw [sameB_self]; rintro e w' ⟨rfl, hb⟩)
      | (go_at_call 15; go_split_ands; (with_reducible refine (works_ok _).mono ?_); rintro e w' ⟨rfl, hb⟩))
  all_goals
    go_split_ands
    have HBF := RM.be (by assumption : RM w Ta Tb D (.slice Aa Ta.js.length ca) (.slice Ab Tb.js.length cb) (.slice A1 D.js.length c1) (.slice A2 D.js.length c2) ba bb bt bu w')
    go_wp2
    go_ret
    exact ⟨rfl, HBF⟩

theorem lmakes_rd {cs0 cs1 : Array Value} (p : Int) {w : World} (h0 : Rd26 w cs0.toList) (h1 : Rd26 w cs1.toList) (hi : ItOk okN w.heap.size w) :
    Calls Tryd.prog 8 #[.int .i64 p, .agg cs0, .agg cs1] w fun e w' => e = .returned (.bool true) ∧ Below w.heap.size w w' := by
  obtain ⟨T, v, e0, h, hl⟩ := task_of_rd h0
  obtain ⟨U, u, e1, h', hl'⟩ := task_of_rd h1
  obtain rfl : cs0 = (T.cs v).1 := Array.toList_inj.1 e0
  obtain rfl : cs1 = (U.cs u).1 := Array.toList_inj.1 e1
  exact lmakes_ok p T U v u w h h' hl hl' hi

end Go.Proofs.YtkfjlkpickeobaaDoor
