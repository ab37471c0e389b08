/- The law TaskPushes, by contract. Printed by gen_lpush.py (this repo's). -/
import Derived.Test.YtkfjlkpickeobaaDoorTmE
import Derived.Test.YtkfjlkpickeobaaDoorTmD
set_option linter.unusedVariables false
set_option linter.unusedSimpArgs false
namespace Go.Proofs.YtkfjlkpickeobaaDoor
open Go.RowKit
open Go.Proofs.YtkfjlkpickeobaaDoorW.PrintWords (Kd Drawn0 Kept rd rdOf ReadsRow)
open Go.Proofs.YtkfjlkpickeobaaDoor.PTaskRuns
set_option maxRecDepth 100000

set_option maxHeartbeats 8000000 in
theorem lpushes_ok (T : Tk) (v : Value) (x : Jb) (now : Int) (w : World) (h : TR w v T.js) (hl : T.js.length * 32 ≤ 140737488351232) :
    Calls Tryd.prog 3 #[T.v v, jv x, .int .i64 now] w fun e w' => e = .returned (.bool true) ∧ Below w.heap.size w w' := by
  obtain ⟨P, E, hPE⟩ : ∃ (P : Tk) (E : Int), pushF T x now = (P, E) := ⟨_, _, rfl⟩
  have hPl : P.js.length ≤ 8 := by have := pushF_js T x now; rw [hPE] at this; exact this
  have HPE := Lib.hid hPE
  have HL := Lib.hid hl
  have HLb : Hid (T.js.length ≤ 9223372036854775800) := Lib.hid (by omega)
  have HPl := Lib.hid hPl
  obtain ⟨bt, hbt⟩ : ∃ b, b = w.heap.size := ⟨_, rfl⟩
  obtain ⟨bj, hbj⟩ : ∃ b, b = w.heap.size + 1 := ⟨_, rfl⟩
  obtain ⟨W0, hW0⟩ : ∃ y, y = (w.alloc (.cells #[.int .i64 T.p, v, .int .i64 T.g, .int .i64 T.o, .int .i64 T.l, .int .i64 T.d, .int .i64 T.c, .int .i64 T.t] 26)).alloc (.cells #[.int .i64 x.f0, .int .i64 x.f1, .int .i64 x.f2, .int .i64 x.f3] 28) := ⟨_, rfl⟩
  have hx : BX w.heap.size w W0 [T.cs v, jcs x] := by rw [hW0]; exact BX.new w [T.cs v, jcs x]
  have HXt : Hid (TX W0 bt T v) := by rw [hbt]; exact Lib.hid ⟨hx.bx 0 _ rfl, h.below hx.be⟩
  have HXj : Hid (JX W0 bj x) := by rw [hbj]; exact Lib.hid (hx.bx 1 _ rfl)
  have HBW0 := Lib.hid hx.be
  have HW0 := Lib.hid hW0
  have Hbt := Lib.hid hbt
  have Hbj := Lib.hid hbj
  have HBW := True.intro
  clear h hl hPE hPl hx hW0 hbt hbj
  go_enter Tryd.func3, Tryd.ntmps3
  go_wp2_with fail
  rw [← HW0.out, ← Hbj.out, ← Hbt.out]
  refine (twin_c T v _ HXt.out.tr HL.out).mono ?_
  rintro e w1 ⟨v1, rfl, hR, hb⟩
  obtain ⟨A1, c1, rfl⟩ := Kd.R_slice hR
  have HBw1 := Lib.hid (below_call HBW0.out (by first | exact Nat.le_refl _ | (have := HBW.out; omega)) hb)
  replace HXt := Lib.hid (HXt.out.below hb)
  replace HXj := Lib.hid (HXj.out.below hb)
  clear HBW0
  obtain ⟨bm, hbm⟩ : ∃ y, y = w1.heap.size := ⟨_, rfl⟩
  obtain ⟨Wm, hWm⟩ : ∃ y, y = w1.alloc (.cells (Tk.cs T (.slice A1 T.js.length c1)).1 26) := ⟨_, rfl⟩
  have HPt := HXt
  have HPj := HXj
  replace HXt : Hid (TX Wm bt T v) := by rw [hWm]; exact Lib.hid (HXt.out.alloc _)
  replace HXj : Hid (JX Wm bj x) := by rw [hWm]; exact Lib.hid (HXj.out.alloc _)
  have HXm : Hid (TX Wm bm T (.slice A1 T.js.length c1)) := by rw [hWm, hbm]; exact Lib.hid (TX.new (TR.of_R hR))
  have HBWm : Hid (Below w.heap.size w Wm) := by rw [hWm]; exact Lib.hid (below_alloc HBw1.out (Nat.le_refl _) _)
  have HWm := Lib.hid hWm
  have Hbm := Lib.hid hbm
  clear hWm hbm HBw1
  clear hb
  obtain ⟨tj_0, tj_1, tj_2, tj_3⟩ := HPj.out.j4
  have lj := HPj.out.lt
  go_wp2_with fail
  rw [← HWm.out, ← Hbm.out]
  clear HPt HPj
  clear tj_0 tj_1 tj_2 tj_3 lj
  refine (tpush_any T _ x now _ HXm.out.tr HLb.out).mono ?_
  rintro e w2 ⟨v2, he, hR, hb⟩
  have HBw2 := Lib.hid (below_call HBWm.out (by first | exact Nat.le_refl _ | (have := HBW.out; omega)) hb)
  replace HXt := Lib.hid (HXt.out.below hb)
  replace HXj := Lib.hid (HXj.out.below hb)
  replace HXm := Lib.hid (HXm.out.below hb)
  rw [HPE.out] at he hR
  dsimp only at he hR
  subst he
  obtain ⟨A2, c2, rfl⟩ := Kd.R_slice hR
  clear HBWm
  obtain ⟨ba, hba⟩ : ∃ y, y = w2.heap.size := ⟨_, rfl⟩
  obtain ⟨Wa, hWa⟩ : ∃ y, y = w2.alloc (.cells (Tk.cs P (.slice A2 P.js.length c2)).1 26) := ⟨_, rfl⟩
  have HPt := HXt
  have HPj := HXj
  have HPm := HXm
  replace HXt : Hid (TX Wa bt T v) := by rw [hWa]; exact Lib.hid (HXt.out.alloc _)
  replace HXj : Hid (JX Wa bj x) := by rw [hWa]; exact Lib.hid (HXj.out.alloc _)
  replace HXm : Hid (TX Wa bm T (.slice A1 T.js.length c1)) := by rw [hWa]; exact Lib.hid (HXm.out.alloc _)
  have HXa : Hid (TX Wa ba P (.slice A2 P.js.length c2)) := by rw [hWa, hba]; exact Lib.hid (TX.new (TR.of_R hR))
  have HBWa : Hid (Below w.heap.size w Wa) := by rw [hWa]; exact Lib.hid (below_alloc HBw2.out (Nat.le_refl _) _)
  have HWa := Lib.hid hWa
  have Hba := Lib.hid hba
  clear hWa hba HBw2
  clear hb
  obtain ⟨tt_0, tt_1, tt_2, tt_3, tt_4, tt_5, tt_6, tt_7⟩ := HPt.out.t8
  have lt := HPt.out.lt
  obtain ⟨tj_0, tj_1, tj_2, tj_3⟩ := HPj.out.j4
  have lj := HPj.out.lt
  go_wp2_with fail
  rw [← HWa.out, ← Hba.out]
  clear HPt HPj HPm
  clear tt_0 tt_1 tt_2 tt_3 tt_4 tt_5 tt_6 tt_7 lt tj_0 tj_1 tj_2 tj_3 lj
  refine (rpush_any T _ x now _ HXt.out.tr HLb.out).mono ?_
  rintro e w3 ⟨v3, he, hR, hb⟩
  have HBw3 := Lib.hid (below_call HBWa.out (by first | exact Nat.le_refl _ | (have := HBW.out; omega)) hb)
  replace HXt := Lib.hid (HXt.out.below hb)
  replace HXj := Lib.hid (HXj.out.below hb)
  replace HXm := Lib.hid (HXm.out.below hb)
  replace HXa := Lib.hid (HXa.out.below hb)
  rw [HPE.out] at he hR
  dsimp only at he hR
  subst he
  obtain ⟨A3, c3, rfl, -, -⟩ := id hR
  clear HBWa
  obtain ⟨bb, hbb⟩ : ∃ y, y = w3.heap.size := ⟨_, rfl⟩
  obtain ⟨Wb, hWb⟩ : ∃ y, y = w3.alloc (.cells (Tk.cs P (.slice A3 P.js.length c3)).1 26) := ⟨_, rfl⟩
  have HPt := HXt
  have HPj := HXj
  have HPm := HXm
  have HPa := HXa
  replace HXt : Hid (TX Wb bt T v) := by rw [hWb]; exact Lib.hid (HXt.out.alloc _)
  replace HXj : Hid (JX Wb bj x) := by rw [hWb]; exact Lib.hid (HXj.out.alloc _)
  replace HXm : Hid (TX Wb bm T (.slice A1 T.js.length c1)) := by rw [hWb]; exact Lib.hid (HXm.out.alloc _)
  replace HXa : Hid (TX Wb ba P (.slice A2 P.js.length c2)) := by rw [hWb]; exact Lib.hid (HXa.out.alloc _)
  have HXb : Hid (TX Wb bb P (.slice A3 P.js.length c3)) := by rw [hWb, hbb]; exact Lib.hid (TX.new (hR))
  have HBWb : Hid (Below w.heap.size w Wb) := by rw [hWb]; exact Lib.hid (below_alloc HBw3.out (Nat.le_refl _) _)
  have HWb := Lib.hid hWb
  have Hbb := Lib.hid hbb
  clear hWb hbb HBw3
  clear hb
  obtain ⟨ta_0, ta_1, ta_2, ta_3, ta_4, ta_5, ta_6, ta_7⟩ := HPa.out.t8
  have la := HPa.out.lt
  go_wp2_with fail
  rw [← HWb.out, ← Hbb.out]
  clear HPt HPj HPm HPa
  clear ta_0 ta_1 ta_2 ta_3 ta_4 ta_5 ta_6 ta_7 la
  refine (same_t P _ _ _ HXa.out.tr HXb.out.tr (by have := HPl.out; omega)).mono ?_
  rintro e w4 ⟨rfl, hb⟩
  have HBw4 := Lib.hid (below_call HBWb.out (by first | exact Nat.le_refl _ | (have := HBW.out; omega)) hb)
  replace HXt := Lib.hid (HXt.out.below hb)
  replace HXj := Lib.hid (HXj.out.below hb)
  replace HXm := Lib.hid (HXm.out.below hb)
  replace HXa := Lib.hid (HXa.out.below hb)
  replace HXb := Lib.hid (HXb.out.below hb)
  clear HBWb
  clear hb
  go_wp2_with fail
  refine (num_c E _).mono ?_
  rintro e w_ ⟨rfl, rfl⟩
  obtain ⟨tm_0, tm_1, tm_2, tm_3, tm_4, tm_5, tm_6, tm_7⟩ := HXm.out.t8
  have lm := HXm.out.lt
  obtain ⟨tt_0, tt_1, tt_2, tt_3, tt_4, tt_5, tt_6, tt_7⟩ := HXt.out.t8
  have lt := HXt.out.lt
  go_wp2_with fail
  clear tm_0 tm_1 tm_2 tm_3 tm_4 tm_5 tm_6 tm_7 lm tt_0 tt_1 tt_2 tt_3 tt_4 tt_5 tt_6 tt_7 lt
  refine (same_t T _ _ _ HXm.out.tr HXt.out.tr HLb.out).mono ?_
  rintro e w5 ⟨rfl, hb⟩
  have HBw5 := Lib.hid (below_call HBw4.out (by first | exact Nat.le_refl _ | (have := HBW.out; omega)) hb)
  replace HXt := Lib.hid (HXt.out.below hb)
  replace HXj := Lib.hid (HXj.out.below hb)
  replace HXm := Lib.hid (HXm.out.below hb)
  replace HXa := Lib.hid (HXa.out.below hb)
  replace HXb := Lib.hid (HXb.out.below hb)
  clear HBw4
  clear hb
  go_wp2_with fail
  refine (works_ok _).mono ?_
  rintro e w6 ⟨rfl, hb⟩
  have HBw6 := Lib.hid (below_call HBw5.out (by first | exact Nat.le_refl _ | (have := HBW.out; omega)) hb)
  replace HXt := Lib.hid (HXt.out.below hb)
  replace HXj := Lib.hid (HXj.out.below hb)
  replace HXm := Lib.hid (HXm.out.below hb)
  replace HXa := Lib.hid (HXa.out.below hb)
  replace HXb := Lib.hid (HXb.out.below hb)
  clear HBw5
  clear hb
  go_wp2
  go_ret
  exact ⟨rfl, HBw6.out⟩

theorem lpushes_rd {cs0 cs1 : Array Value} (now : Int) {w : World} (h0 : Rd26 w cs0.toList) (h1 : Rd28 w cs1.toList) :
    Calls Tryd.prog 3 #[.agg cs0, .agg cs1, .int .i64 now] w fun e w' => e = .returned (.bool true) ∧ Below w.heap.size w w' := by
  obtain ⟨T, v, e0, h, hl⟩ := task_of_rd h0
  obtain ⟨x, e1⟩ := job_of_rd h1
  obtain rfl : cs0 = (T.cs v).1 := Array.toList_inj.1 e0
  obtain rfl : cs1 = (jcs x).1 := Array.toList_inj.1 e1
  exact lpushes_ok T v x now w h hl

end Go.Proofs.YtkfjlkpickeobaaDoor
