/- The law TaskRuns, by contract. Printed by gen_lrun.py (this repo's). -/
import Derived.Test.YtkfjlkpickeobaaDoorTmE
import Derived.Test.YtkfjlkpickeobaaDoorTmD
import Derived.Test.YtkfjlkpickeobaaDoorTkxa
set_option linter.unusedVariables false
set_option linter.unusedSimpArgs false
namespace Go.Proofs.YtkfjlkpickeobaaDoor
open Go.RowKit
open Go.Proofs.YtkfjlkpickeobaaDoorW.PrintWords (Kd Drawn0 Kept rd rdOf ReadsRow)
open Go.Proofs.YtkfjlkpickeobaaDoor.PTaskRuns
set_option maxRecDepth 100000

/-- What is carried in the law's last row: four tasks and what stayed. -/
structure RQ (w : World) (ba bb bm bt : Nat) (P T : Tk) (va vb vm vt : Value) (W : World) : Prop where
  a : TX W ba P va
  b : TX W bb P vb
  m : TX W bm T vm
  t : TX W bt T vt
  be : Below w.heap.size w W
theorem RQ.below {w W W' : World} {ba bb bm bt : Nat} {P T : Tk} {va vb vm vt : Value} (h : RQ w ba bb bm bt P T va vb vm vt W) (hb : Below W.heap.size W W') : RQ w ba bb bm bt P T va vb vm vt W' := ⟨h.a.below hb, h.b.below hb, h.m.below hb, h.t.below hb, below_call h.be (Nat.le_refl _) hb⟩
theorem RQ.drew {w W : World} {ba bb bm bt : Nat} {P T : Tk} {va vb vm vt : Value} (h : RQ w ba bb bm bt P T va vb vm vt W) : RQ w ba bb bm bt P T va vb vm vt W.drew := h.below (below_drewN' (Below.refl _ W) 1)
theorem RQ.full {w W : World} {ba bb bm bt : Nat} {P T : Tk} {va vb vm vt : Value} (h : RQ w ba bb bm bt P T va vb vm vt W) : W.cell? ⟨ba, 0, none⟩ = some (.int .i64 P.p) ∧ W.cell? ⟨ba, 1, none⟩ = some (va) ∧ W.cell? ⟨ba, 2, none⟩ = some (.int .i64 P.g) ∧ W.cell? ⟨ba, 3, none⟩ = some (.int .i64 P.o) ∧ W.cell? ⟨ba, 4, none⟩ = some (.int .i64 P.l) ∧ W.cell? ⟨ba, 5, none⟩ = some (.int .i64 P.d) ∧ W.cell? ⟨ba, 6, none⟩ = some (.int .i64 P.c) ∧ W.cell? ⟨ba, 7, none⟩ = some (.int .i64 P.t) ∧ W.cell? ⟨bb, 0, none⟩ = some (.int .i64 P.p) ∧ W.cell? ⟨bb, 1, none⟩ = some (vb) ∧ W.cell? ⟨bb, 2, none⟩ = some (.int .i64 P.g) ∧ W.cell? ⟨bb, 3, none⟩ = some (.int .i64 P.o) ∧ W.cell? ⟨bb, 4, none⟩ = some (.int .i64 P.l) ∧ W.cell? ⟨bb, 5, none⟩ = some (.int .i64 P.d) ∧ W.cell? ⟨bb, 6, none⟩ = some (.int .i64 P.c) ∧ W.cell? ⟨bb, 7, none⟩ = some (.int .i64 P.t) ∧ W.cell? ⟨bm, 0, none⟩ = some (.int .i64 T.p) ∧ W.cell? ⟨bm, 1, none⟩ = some (vm) ∧ W.cell? ⟨bm, 2, none⟩ = some (.int .i64 T.g) ∧ W.cell? ⟨bm, 3, none⟩ = some (.int .i64 T.o) ∧ W.cell? ⟨bm, 4, none⟩ = some (.int .i64 T.l) ∧ W.cell? ⟨bm, 5, none⟩ = some (.int .i64 T.d) ∧ W.cell? ⟨bm, 6, none⟩ = some (.int .i64 T.c) ∧ W.cell? ⟨bm, 7, none⟩ = some (.int .i64 T.t) ∧ W.cell? ⟨bt, 0, none⟩ = some (.int .i64 T.p) ∧ W.cell? ⟨bt, 1, none⟩ = some (vt) ∧ W.cell? ⟨bt, 2, none⟩ = some (.int .i64 T.g) ∧ W.cell? ⟨bt, 3, none⟩ = some (.int .i64 T.o) ∧ W.cell? ⟨bt, 4, none⟩ = some (.int .i64 T.l) ∧ W.cell? ⟨bt, 5, none⟩ = some (.int .i64 T.d) ∧ W.cell? ⟨bt, 6, none⟩ = some (.int .i64 T.c) ∧ W.cell? ⟨bt, 7, none⟩ = some (.int .i64 T.t) ∧ RQ w ba bb bm bt P T va vb vm vt W := by
  obtain ⟨a0, a1, a2, a3, a4, a5, a6, a7⟩ := h.a.t8
  obtain ⟨b0, b1, b2, b3, b4, b5, b6, b7⟩ := h.b.t8
  obtain ⟨m0, m1, m2, m3, m4, m5, m6, m7⟩ := h.m.t8
  obtain ⟨t0, t1, t2, t3, t4, t5, t6, t7⟩ := h.t.t8
  exact ⟨a0, a1, a2, a3, a4, a5, a6, a7, b0, b1, b2, b3, b4, b5, b6, b7, m0, m1, m2, m3, m4, m5, m6, m7, t0, t1, t2, t3, t4, t5, t6, t7, h⟩

theorem num_cb (n : Int) (w : World) : Calls Tryd.prog 14 #[errV n] w fun e w' => e = .returned (.int .i64 n) ∧ Below w.heap.size w w' := (num_c n w).mono fun e w' h => ⟨h.1, by rw [h.2]; exact Below.refl _ _⟩

set_option maxHeartbeats 2000000 in
theorem lruns_ok (T : Tk) (v : Value) (now : Int) (w : World) (h : TR w v T.js) (hl : T.js.length * 32 ≤ 140737488351232) :
    Calls Tryd.prog 4 #[T.v v, .int .i64 now] w fun e w' => e = .returned (.bool true) ∧ Below w.heap.size w w' := by
  obtain ⟨P, X, Y, E, hPE⟩ : ∃ (P : Tk) (X Y E : Int), runF T now = (P, X, Y, E) := ⟨_, _, _, _, rfl⟩
  have hPl : P.js.length ≤ 8 := by have := runF_js (T := T) (now := now); rw [hPE] at this; exact this
  have HPE := Lib.hid hPE
  have HL := Lib.hid hl
  have HLb : Hid (T.js.length ≤ 9223372036854775800) := Lib.hid (by omega)
  have HPl := Lib.hid hPl
  obtain ⟨bt, hbt⟩ : ∃ b, b = w.heap.size := ⟨_, rfl⟩
  obtain ⟨W0, hW0⟩ : ∃ y, y = w.alloc (.cells #[.int .i64 T.p, v, .int .i64 T.g, .int .i64 T.o, .int .i64 T.l, .int .i64 T.d, .int .i64 T.c, .int .i64 T.t] 26) := ⟨_, rfl⟩
  have hx : BX w.heap.size w W0 [T.cs v] := by rw [hW0]; exact BX.new w [T.cs v]
  have HXt : Hid (TX W0 bt T v) := by rw [hbt]; exact Lib.hid ⟨hx.bx 0 _ rfl, h.below hx.be⟩
  have HBW0 := Lib.hid hx.be
  have HW0 := Lib.hid hW0
  have Hbt := Lib.hid hbt
  have HBW := True.intro
  clear h hl hPE hPl hx hW0 hbt
  go_enter Tryd.func4, Tryd.ntmps4
  go_wp2_with fail
  rw [← HW0.out, ← Hbt.out]
  refine (twin_c T v _ HXt.out.tr HL.out).mono ?_
  rintro e w1 ⟨v1, rfl, hR, hb⟩
  obtain ⟨A1, c1, rfl⟩ := Kd.R_slice hR
  have HBw1 := Lib.hid (below_call HBW0.out (by first | exact Nat.le_refl _ | (have := HBW.out; omega)) hb)
  replace HXt := Lib.hid (HXt.out.below hb)
  clear HBW0
  obtain ⟨bm, hbm⟩ : ∃ y, y = w1.heap.size := ⟨_, rfl⟩
  obtain ⟨Wm, hWm⟩ : ∃ y, y = w1.alloc (.cells (Tk.cs T (.slice A1 T.js.length c1)).1 26) := ⟨_, rfl⟩
  have HPt := HXt
  replace HXt : Hid (TX Wm bt T v) := by rw [hWm]; exact Lib.hid (HXt.out.alloc _)
  have HXm : Hid (TX Wm bm T (.slice A1 T.js.length c1)) := by rw [hWm, hbm]; exact Lib.hid (TX.new (TR.of_R hR))
  have HBWm : Hid (Below w.heap.size w Wm) := by rw [hWm]; exact Lib.hid (below_alloc HBw1.out (Nat.le_refl _) _)
  have HWm := Lib.hid hWm
  have Hbm := Lib.hid hbm
  clear hWm hbm HBw1
  clear hb
  go_wp2_with fail
  rw [← HWm.out, ← Hbm.out]
  clear HPt
  refine (trun_any T _ now _ HXm.out.tr HLb.out).mono ?_
  rintro e w2 ⟨v2, he, hR, hb⟩
  have HBw2 := Lib.hid (below_call HBWm.out (by first | exact Nat.le_refl _ | (have := HBW.out; omega)) hb)
  replace HXt := Lib.hid (HXt.out.below hb)
  replace HXm := Lib.hid (HXm.out.below hb)
  rw [HPE.out] at he hR
  dsimp only at he hR
  subst he
  obtain ⟨A2, c2, rfl⟩ := Kd.R_slice hR
  clear HBWm
  obtain ⟨ba, hba⟩ : ∃ y, y = w2.heap.size := ⟨_, rfl⟩
  obtain ⟨Wa, hWa⟩ : ∃ y, y = w2.alloc (.cells (Tk.cs P (.slice A2 P.js.length c2)).1 26) := ⟨_, rfl⟩
  have HPt := HXt
  have HPm := HXm
  replace HXt : Hid (TX Wa bt T v) := by rw [hWa]; exact Lib.hid (HXt.out.alloc _)
  replace HXm : Hid (TX Wa bm T (.slice A1 T.js.length c1)) := by rw [hWa]; exact Lib.hid (HXm.out.alloc _)
  have HXa : Hid (TX Wa ba P (.slice A2 P.js.length c2)) := by rw [hWa, hba]; exact Lib.hid (TX.new (TR.of_R hR))
  have HBWa : Hid (Below w.heap.size w Wa) := by rw [hWa]; exact Lib.hid (below_alloc HBw2.out (Nat.le_refl _) _)
  have HWa := Lib.hid hWa
  have Hba := Lib.hid hba
  clear hWa hba HBw2
  clear hb
  obtain ⟨tt_0, tt_1, tt_2, tt_3, tt_4, tt_5, tt_6, tt_7⟩ := HPt.out.t8
  have lt := HPt.out.lt
  go_wp2_with fail
  rw [← HWa.out, ← Hba.out]
  clear HPt HPm
  clear tt_0 tt_1 tt_2 tt_3 tt_4 tt_5 tt_6 tt_7 lt
  refine (rrun_any T _ now _ HXt.out.tr HLb.out).mono ?_
  rintro e w3 ⟨v3, he, hR, hb⟩
  have HBw3 := Lib.hid (below_call HBWa.out (by first | exact Nat.le_refl _ | (have := HBW.out; omega)) hb)
  replace HXt := Lib.hid (HXt.out.below hb)
  replace HXm := Lib.hid (HXm.out.below hb)
  replace HXa := Lib.hid (HXa.out.below hb)
  rw [HPE.out] at he hR
  dsimp only at he hR
  subst he
  obtain ⟨A3, c3, rfl, -, -⟩ := id hR
  clear HBWa
  obtain ⟨bb, hbb⟩ : ∃ y, y = w3.heap.size := ⟨_, rfl⟩
  obtain ⟨Wb, hWb⟩ : ∃ y, y = w3.alloc (.cells (Tk.cs P (.slice A3 P.js.length c3)).1 26) := ⟨_, rfl⟩
  have HPt := HXt
  have HPm := HXm
  have HPa := HXa
  replace HXt : Hid (TX Wb bt T v) := by rw [hWb]; exact Lib.hid (HXt.out.alloc _)
  replace HXm : Hid (TX Wb bm T (.slice A1 T.js.length c1)) := by rw [hWb]; exact Lib.hid (HXm.out.alloc _)
  replace HXa : Hid (TX Wb ba P (.slice A2 P.js.length c2)) := by rw [hWb]; exact Lib.hid (HXa.out.alloc _)
  have HXb : Hid (TX Wb bb P (.slice A3 P.js.length c3)) := by rw [hWb, hbb]; exact Lib.hid (TX.new (hR))
  have HBWb : Hid (Below w.heap.size w Wb) := by rw [hWb]; exact Lib.hid (below_alloc HBw3.out (Nat.le_refl _) _)
  have HWb := Lib.hid hWb
  have Hbb := Lib.hid hbb
  clear hWb hbb HBw3
  clear hb
  go_wp2_with fail
  rw [← HWb.out, ← Hbb.out]
  clear HPt HPm HPa
  have HQ0 : RQ w ba bb bm bt P T (.slice A2 P.js.length c2) (.slice A3 P.js.length c3) (.slice A1 T.js.length c1) v Wb := ⟨HXa.out, HXb.out, HXm.out, HXt.out, HBWb.out⟩
  have HF0 := HQ0.full
  go_split_ands
  obtain ⟨rd, hrd⟩ : ∃ r, r = decide (0 < T.js.length) := ⟨_, rfl⟩
  have HRD := Lib.hid hrd.symm
  clear hrd HXa HXb HXm HXt HBWb
  go_region_held3 (fun w' => w'.cell? ⟨ba, 0, none⟩ = some (.int .i64 P.p) ∧ w'.cell? ⟨ba, 1, none⟩ = some (.slice A2 P.js.length c2) ∧ w'.cell? ⟨ba, 2, none⟩ = some (.int .i64 P.g) ∧ w'.cell? ⟨ba, 3, none⟩ = some (.int .i64 P.o) ∧ w'.cell? ⟨ba, 4, none⟩ = some (.int .i64 P.l) ∧ w'.cell? ⟨ba, 5, none⟩ = some (.int .i64 P.d) ∧ w'.cell? ⟨ba, 6, none⟩ = some (.int .i64 P.c) ∧ w'.cell? ⟨ba, 7, none⟩ = some (.int .i64 P.t) ∧ w'.cell? ⟨bb, 0, none⟩ = some (.int .i64 P.p) ∧ w'.cell? ⟨bb, 1, none⟩ = some (.slice A3 P.js.length c3) ∧ w'.cell? ⟨bb, 2, none⟩ = some (.int .i64 P.g) ∧ w'.cell? ⟨bb, 3, none⟩ = some (.int .i64 P.o) ∧ w'.cell? ⟨bb, 4, none⟩ = some (.int .i64 P.l) ∧ w'.cell? ⟨bb, 5, none⟩ = some (.int .i64 P.d) ∧ w'.cell? ⟨bb, 6, none⟩ = some (.int .i64 P.c) ∧ w'.cell? ⟨bb, 7, none⟩ = some (.int .i64 P.t) ∧ w'.cell? ⟨bm, 0, none⟩ = some (.int .i64 T.p) ∧ w'.cell? ⟨bm, 1, none⟩ = some (.slice A1 T.js.length c1) ∧ w'.cell? ⟨bm, 2, none⟩ = some (.int .i64 T.g) ∧ w'.cell? ⟨bm, 3, none⟩ = some (.int .i64 T.o) ∧ w'.cell? ⟨bm, 4, none⟩ = some (.int .i64 T.l) ∧ w'.cell? ⟨bm, 5, none⟩ = some (.int .i64 T.d) ∧ w'.cell? ⟨bm, 6, none⟩ = some (.int .i64 T.c) ∧ w'.cell? ⟨bm, 7, none⟩ = some (.int .i64 T.t) ∧ w'.cell? ⟨bt, 0, none⟩ = some (.int .i64 T.p) ∧ w'.cell? ⟨bt, 1, none⟩ = some (v) ∧ w'.cell? ⟨bt, 2, none⟩ = some (.int .i64 T.g) ∧ w'.cell? ⟨bt, 3, none⟩ = some (.int .i64 T.o) ∧ w'.cell? ⟨bt, 4, none⟩ = some (.int .i64 T.l) ∧ w'.cell? ⟨bt, 5, none⟩ = some (.int .i64 T.d) ∧ w'.cell? ⟨bt, 6, none⟩ = some (.int .i64 T.c) ∧ w'.cell? ⟨bt, 7, none⟩ = some (.int .i64 T.t) ∧ RQ w ba bb bm bt P T (.slice A2 P.js.length c2) (.slice A3 P.js.length c3) (.slice A1 T.js.length c1) v w')
    (first
      | (go_split_ands; exact RQ.full (RQ.below (by assumption) hb))
      | (go_split_ands; exact RQ.full (RQ.drew (by assumption))))
    (first
      | (go_at_call 14; go_split_ands; (with_reducible refine (num_cb E _).mono ?_); rintro e w' ⟨rfl, hb⟩)
      | (go_at_call 13; go_split_ands; (with_reducible refine (same_t P (.slice A2 P.js.length c2) (.slice A3 P.js.length c3) _ (RQ.a (by assumption)).tr (RQ.b (by assumption)).tr (by have := HPl.out; omega)).mono ?_); rintro e w' ⟨rfl, hb⟩)
      | (go_at_call 13; go_split_ands; (with_reducible refine (same_t T (.slice A1 T.js.length c1) v _ (RQ.m (by assumption)).tr (RQ.t (by assumption)).tr HLb.out).mono ?_); rintro e w' ⟨rfl, hb⟩)
      | (go_at_call 18; go_split_ands; (with_reducible refine (tready_c T v rd _ (RQ.t (by assumption)).tr HRD.out).mono ?_); rintro e w' ⟨rfl, hb⟩)
      | (go_at_call 19; go_split_ands; (with_reducible refine (rready_c T v rd _ (RQ.t (by assumption)).tr HRD.out).mono ?_); rintro e w' ⟨rfl, hb⟩)
      | (go_at_call 15; go_split_ands; (with_reducible refine (works_ok _).mono ?_); rintro e w' ⟨rfl, hb⟩))
  all_goals
    go_split_ands
    have HBF := RQ.be (by assumption : RQ w ba bb bm bt P T (.slice A2 P.js.length c2) (.slice A3 P.js.length c3) (.slice A1 T.js.length c1) v w')
    go_wp2
    go_ret
    exact ⟨rfl, HBF⟩

theorem lruns_rd {cs0 : Array Value} (now : Int) {w : World} (h0 : Rd26 w cs0.toList) :
    Calls Tryd.prog 4 #[.agg cs0, .int .i64 now] w fun e w' => e = .returned (.bool true) ∧ Below w.heap.size w w' := by
  obtain ⟨T, v, e0, h, hl⟩ := task_of_rd h0
  obtain rfl : cs0 = (T.cs v).1 := Array.toList_inj.1 e0
  exact lruns_ok T v now w h hl

end Go.Proofs.YtkfjlkpickeobaaDoor
