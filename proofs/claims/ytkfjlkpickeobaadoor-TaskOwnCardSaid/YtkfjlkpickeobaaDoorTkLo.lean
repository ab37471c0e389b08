/- The law TaskOwn, by contract. Printed by gen_lown.py (this repo's). -/
import Derived.Test.YtkfjlkpickeobaaDoorTkO0
import Derived.Test.YtkfjlkpickeobaaDoorTmE
set_option linter.unusedVariables false
set_option linter.unusedSimpArgs false
namespace Go.Proofs.YtkfjlkpickeobaaDoor
open Go.RowKit
open Go.Proofs.YtkfjlkpickeobaaDoorW.PrintWords (Kd Drawn0 Kept rd rdOf ReadsRow)
open Go.Proofs.YtkfjlkpickeobaaDoor.PTaskRuns
set_option maxRecDepth 100000

set_option maxHeartbeats 8000000 in
theorem lown_ok (T : Tk) (v : Value) (x : Jb) (now : Int) (w : World) (h : TR w v T.js) (hl : T.js.length * 32 ≤ 140737488351232) :
    Calls Tryd.prog 5 #[T.v v, jv x, .int .i64 now] w fun e w' => e = .returned (.bool true) ∧ Below w.heap.size w w' := by
  obtain ⟨P, E, hPE⟩ : ∃ (P : Tk) (E : Int), pushF T x now = (P, E) := ⟨_, _, rfl⟩
  obtain ⟨Q, X, Y, F, hQF⟩ : ∃ (Q : Tk) (X Y F : Int), runF T now = (Q, X, Y, F) := ⟨_, _, _, _, rfl⟩
  have hPl : P.js.length ≤ 8 := by have := pushF_js T x now; rw [hPE] at this; exact this
  have hF0 : 0 ≤ F := by have := runF_err T now; rw [hQF] at this; exact this
  have HPE := Lib.hid hPE
  have HQF := Lib.hid hQF
  have HF0 := Lib.hid hF0
  have HL := Lib.hid hl
  have HLb : Hid (T.js.length ≤ 9223372036854775800) := Lib.hid (by omega)
  have HPl := Lib.hid hPl
  obtain ⟨bt, hbt⟩ : ∃ b, b = w.heap.size := ⟨_, rfl⟩
  obtain ⟨bj, hbj⟩ : ∃ b, b = w.heap.size + 1 := ⟨_, rfl⟩
  obtain ⟨W0, hW0⟩ : ∃ y, y = (w.alloc (.cells #[.int .i64 T.p, v, .int .i64 T.g, .int .i64 T.o, .int .i64 T.l, .int .i64 T.d, .int .i64 T.c, .int .i64 T.t] 26)).alloc (.cells #[.int .i64 x.f0, .int .i64 x.f1, .int .i64 x.f2, .int .i64 x.f3] 28) := ⟨_, rfl⟩
  have hx : BX w.heap.size w W0 [T.cs v, jcs x] := by rw [hW0]; exact BX.new w [T.cs v, jcs x]
  have HXt : Hid (TX W0 bt T v) := by rw [hbt]; exact Lib.hid ⟨hx.bx 0 _ rfl, h.below hx.be⟩
  have HXj : Hid (JX W0 bj x) := by rw [hbj]; exact Lib.hid (hx.bx 1 _ rfl)
  have HBW0 := Lib.hid hx.be
  have HW0 := Lib.hid hW0
  have Hbt := Lib.hid hbt
  have Hbj := Lib.hid hbj
  have HBW := True.intro
  clear h hl hPE hQF hPl hF0 hx hW0 hbt hbj
  go_enter Tryd.func5, Tryd.ntmps5
  go_wp2_with fail
  rw [← HW0.out, ← Hbj.out, ← Hbt.out]
  refine (twin_c T v _ HXt.out.tr HL.out).mono ?_
  rintro e w1 ⟨v1, rfl, hR, hb⟩
  obtain ⟨A1, c1, rfl⟩ := Kd.R_slice hR
  have HBw1 := Lib.hid (below_call HBW0.out (by first | exact Nat.le_refl _ | (have := HBW.out; omega)) hb)
  replace HXt := Lib.hid (HXt.out.below hb)
  replace HXj := Lib.hid (HXj.out.below hb)
  clear HBW0
  obtain ⟨bm, hbm⟩ : ∃ y, y = w1.heap.size := ⟨_, rfl⟩
  obtain ⟨Wm, hWm⟩ : ∃ y, y = w1.alloc (.cells (Tk.cs T (.slice A1 T.js.length c1)).1 26) := ⟨_, rfl⟩
  have HPt := HXt
  have HPj := HXj
  replace HXt : Hid (TX Wm bt T v) := by rw [hWm]; exact Lib.hid (HXt.out.alloc _)
  replace HXj : Hid (JX Wm bj x) := by rw [hWm]; exact Lib.hid (HXj.out.alloc _)
  have HXm : Hid (TX Wm bm T (.slice A1 T.js.length c1)) := by rw [hWm, hbm]; exact Lib.hid (TX.new (TR.of_R hR))
  have HBWm : Hid (Below w.heap.size w Wm) := by rw [hWm]; exact Lib.hid (below_alloc HBw1.out (Nat.le_refl _) _)
  have HWm := Lib.hid hWm
  have Hbm := Lib.hid hbm
  clear hWm hbm HBw1
  clear hb
  have HMt := HXt
  have HMj := HXj
  have HMm := HXm
  have HBM := HBWm
  have HXe : Hid (BMW Wm Wm) := Lib.hid (Below.refl _ Wm)
  obtain ⟨tj_0, tj_1, tj_2, tj_3⟩ := HPj.out.j4
  have lj := HPj.out.lt
  go_wp2_with fail
  rw [← HWm.out, ← Hbm.out]
  clear HPt HPj
  clear tj_0 tj_1 tj_2 tj_3 lj
  refine (tpush_any T _ x now _ HXm.out.tr HLb.out).mono ?_
  rintro e w2 ⟨v2, he, hR, hb⟩
  have HBw2 := Lib.hid (below_call HBWm.out (by first | exact Nat.le_refl _ | (have := HBW.out; omega)) hb)
  replace HXt := Lib.hid (HXt.out.below hb)
  replace HXj := Lib.hid (HXj.out.below hb)
  replace HXm := Lib.hid (HXm.out.below hb)
  replace HXe := Lib.hid (HXe.out.below hb)
  rw [HPE.out] at he hR
  dsimp only at he hR
  subst he
  obtain ⟨A2, c2, rfl⟩ := Kd.R_slice hR
  have HXu : Hid (JOW w2 A2 P.js.length c2 Wm.heap.size w2.heap.size) := Lib.hid ⟨Nat.le_refl _, JO.of_R hR rfl⟩
  clear HBWm
  clear hb
  obtain ⟨ba, hba⟩ : ∃ y, y = w2.heap.size := ⟨_, rfl⟩
  obtain ⟨Wa, hWa⟩ : ∃ y, y = w2.alloc (.cells (Tk.cs P (.slice A2 P.js.length c2)).1 26) := ⟨_, rfl⟩
  have HPt := HXt
  have HPj := HXj
  have HPm := HXm
  have HPe := HXe
  have HPu := HXu
  replace HXt : Hid (TX Wa bt T v) := by rw [hWa]; exact Lib.hid (HXt.out.alloc _)
  replace HXj : Hid (JX Wa bj x) := by rw [hWa]; exact Lib.hid (HXj.out.alloc _)
  replace HXm : Hid (TX Wa bm T (.slice A1 T.js.length c1)) := by rw [hWa]; exact Lib.hid (HXm.out.alloc _)
  replace HXe : Hid (BMW Wa Wm) := by rw [hWa]; exact Lib.hid (HXe.out.alloc _)
  replace HXu : Hid (JOW Wa A2 P.js.length c2 Wm.heap.size w2.heap.size) := by rw [hWa]; exact Lib.hid (HXu.out.alloc _)
  have HXa : Hid (TX Wa ba P (.slice A2 P.js.length c2)) := by rw [hWa, hba]; exact Lib.hid (TX.new (TR.of_R hR))
  have HBWa : Hid (Below w.heap.size w Wa) := by rw [hWa]; exact Lib.hid (below_alloc HBw2.out (Nat.le_refl _) _)
  have HWa := Lib.hid hWa
  have Hba := Lib.hid hba
  clear hWa hba HBw2 hR
  have HK2 : Hid (ba < Wa.heap.size) := Lib.hid HXa.out.lt
  have HK1 : Hid (Wm.heap.size ≤ Wa.heap.size) := Lib.hid HXe.out.size
  obtain ⟨tm_0, tm_1, tm_2, tm_3, tm_4, tm_5, tm_6, tm_7⟩ := HPm.out.t8
  have lm := HPm.out.lt
  go_wp2_with fail
  rw [← HWa.out, ← Hba.out]
  clear HPt HPj HPm HPe HPu
  clear tm_0 tm_1 tm_2 tm_3 tm_4 tm_5 tm_6 tm_7 lm
  refine (trun_any T _ now _ HXm.out.tr HLb.out).mono ?_
  rintro e w3 ⟨v3, he, hR, hb⟩
  have HBw3 := Lib.hid (below_call HBWa.out (by first | exact Nat.le_refl _ | (have := HBW.out; omega)) hb)
  replace HXt := Lib.hid (HXt.out.below hb)
  replace HXj := Lib.hid (HXj.out.below hb)
  replace HXm := Lib.hid (HXm.out.below hb)
  replace HXe := Lib.hid (HXe.out.below hb)
  replace HXu := Lib.hid (HXu.out.below hb)
  replace HXa := Lib.hid (HXa.out.below hb)
  rw [HQF.out] at he hR
  dsimp only at he hR
  subst he
  obtain ⟨A3, c3, rfl⟩ := Kd.R_slice hR
  have HK3 := Lib.hid hb.size
  have HXo : Hid (JOW w3 A3 Q.js.length c3 Wa.heap.size w3.heap.size) := Lib.hid ⟨Nat.le_refl _, JO.of_R hR rfl⟩
  clear HBWa
  clear hb
  obtain ⟨bb, hbb⟩ : ∃ y, y = w3.heap.size := ⟨_, rfl⟩
  obtain ⟨Wb, hWb⟩ : ∃ y, y = w3.alloc (.cells (Tk.cs Q (.slice A3 Q.js.length c3)).1 26) := ⟨_, rfl⟩
  have HPt := HXt
  have HPj := HXj
  have HPm := HXm
  have HPe := HXe
  have HPu := HXu
  have HPa := HXa
  have HPo := HXo
  replace HXt : Hid (TX Wb bt T v) := by rw [hWb]; exact Lib.hid (HXt.out.alloc _)
  replace HXj : Hid (JX Wb bj x) := by rw [hWb]; exact Lib.hid (HXj.out.alloc _)
  replace HXm : Hid (TX Wb bm T (.slice A1 T.js.length c1)) := by rw [hWb]; exact Lib.hid (HXm.out.alloc _)
  replace HXe : Hid (BMW Wb Wm) := by rw [hWb]; exact Lib.hid (HXe.out.alloc _)
  replace HXu : Hid (JOW Wb A2 P.js.length c2 Wm.heap.size w2.heap.size) := by rw [hWb]; exact Lib.hid (HXu.out.alloc _)
  replace HXa : Hid (TX Wb ba P (.slice A2 P.js.length c2)) := by rw [hWb]; exact Lib.hid (HXa.out.alloc _)
  replace HXo : Hid (JOW Wb A3 Q.js.length c3 Wa.heap.size w3.heap.size) := by rw [hWb]; exact Lib.hid (HXo.out.alloc _)
  have HXb : Hid (TX Wb bb Q (.slice A3 Q.js.length c3)) := by rw [hWb, hbb]; exact Lib.hid (TX.new (TR.of_R hR))
  have HBWb : Hid (Below w.heap.size w Wb) := by rw [hWb]; exact Lib.hid (below_alloc HBw3.out (Nat.le_refl _) _)
  have HWb := Lib.hid hWb
  have Hbb := Lib.hid hbb
  clear hWb hbb HBw3 hR
  go_wp2_with fail
  rw [← HWb.out, ← Hbb.out]
  have HR0 : Hid (RO Wm P Q A2 A3 c2 c3 Wm.heap.size ba Wa.heap.size bb Wb) := Lib.hid ⟨HXe.out, HXa.out.blk, HXb.out.blk, by rw [Hba.out]; exact HXu.out.jo, by rw [Hbb.out]; exact HXo.out.jo⟩
  have HK3b : Hid (Wa.heap.size ≤ bb) := by rw [Hbb.out]; exact HK3
  clear HPt HPj HPm HPe HPu HPo HPa HXt HXj HXm HXe HXu HXo HXa HXb
  go_loopw [14] (fun i wr => ∃ k : Nat, k ≤ P.js.length ∧ i = .int .i64 k ∧ Hid (RO Wm P Q A2 A3 c2 c3 Wm.heap.size ba Wa.heap.size bb wr)) (fun i _ => P.js.length - (intOf i).toNat)
  case atStart => exact ⟨0, Nat.zero_le _, rfl, HR0⟩
  case round =>
    obtain ⟨k, hk, rfl, hR⟩ := hrel
    have hn8 := HPl.out
    have ta1 := hR.out.c0
    by_cases hlt : k < P.js.length
    · obtain ⟨g, u, rfl, hc, hf, hs⟩ := hR.out.setA (Nat.le_refl _) HK2.out HK3b.out hlt
      have HS := Lib.hid hs
      clear hs
      go_wp2
      go_roundw
      case rel => exact ⟨k + 1, by omega, by go_num, Lib.hid (HS.out _)⟩
      case measure => simp [intOf]; omega
    · obtain rfl : k = P.js.length := by omega
      clear HR0
      have HR1 := hR
      have HQl : Hid (Q.js.length ≤ 8) := Lib.hid (by have := runF_js (T := T) (now := now); rw [HQF.out] at this; exact this)
      have hq8 := HQl.out
      go_wp2_with fail
      clear ta1
      go_loopw [15] (fun i wr => ∃ k : Nat, k ≤ Q.js.length ∧ i = .int .i64 k ∧ Hid (RO Wm P Q A2 A3 c2 c3 Wm.heap.size ba Wa.heap.size bb wr)) (fun i _ => Q.js.length - (intOf i).toNat)
      case atStart => exact ⟨0, Nat.zero_le _, rfl, HR1⟩
      case round =>
        clear HR1 hR
        obtain ⟨k, hk, rfl, hR⟩ := hrel
        have tb1 := hR.out.c1
        by_cases hlt2 : k < Q.js.length
        · obtain ⟨g, u, rfl, hc, hf, hs⟩ := hR.out.setB (Nat.le_refl _) HK1.out HK2.out hlt2
          have HS := Lib.hid hs
          clear hs
          go_wp2
          go_roundw
          case rel => exact ⟨k + 1, by omega, by go_num, Lib.hid (HS.out _)⟩
          case measure => simp [intOf]; omega
        · obtain rfl : k = Q.js.length := by omega
          have ta1 := hR.out.c0
          obtain ⟨xs, hown⟩ := hR.out.ra.own
          have HOWN := Lib.hid hown
          obtain ⟨i0, hi0, hz1, hz2, hz3⟩ := infoJ'
          clear hown
          go_wp2_with (first
            | (at_builtin; go_loud (refine wpList_append_own _ rfl (.tmp 63) (.tmp 66) 22 rfl Wm.heap.size 28 i0 (.agg #[.int .i64 0, .int .i64 0, .int .i64 0, .int .i64 0]) 4 32 Tryd.underlying22 hi0 hz1 hz2 hz3 rfl (by decide) (.slice A2 P.js.length c2) P.js.length xs rfl (HOWN.out.alloc _) ⟨wr.heap.size, 0, none⟩ 2 2 z8 rfl rfl (news8 wr) (by decide) (by simp only [maxLen]; omega) (by omega) (Nat.le_trans hR.out.be.size (by simp)) ?_); intro vc wc hoc hgc hnc; obtain ⟨A9, c9, rfl⟩ := own_slice hoc; obtain ⟨hb9, ha9⟩ := RO.after hR.out (Nat.le_refl _) hgc; have HXt := Lib.hid (HMt.out.below hb9); have HXj := Lib.hid (HMj.out.below hb9); have HXm := Lib.hid (HMm.out.below hb9); have HXa := Lib.hid ha9; have HBwc := Lib.hid (below_call HBM.out (Nat.le_refl _) hb9); clear hoc hgc hnc hb9 ha9 ta1 tb1; obtain ⟨tm_0, tm_1, tm_2, tm_3, tm_4, tm_5, tm_6, tm_7⟩ := HXm.out.t8; obtain ⟨tj_0, tj_1, tj_2, tj_3⟩ := HXj.out.j4))
          clear HMt HMj HMm HBM HOWN hR tm_0 tm_1 tm_2 tm_3 tm_4 tm_5 tm_6 tm_7 tj_0 tj_1 tj_2 tj_3
          skip
          refine (tpush_any T _ x now _ HXm.out.tr HLb.out).mono ?_
          rintro e w7 ⟨v4, he, hR, hb⟩
          have HBw7 := Lib.hid (below_call HBwc.out (by first | exact Nat.le_refl _ | (have := HBW.out; omega)) hb)
          replace HXt := Lib.hid (HXt.out.below hb)
          replace HXj := Lib.hid (HXj.out.below hb)
          replace HXm := Lib.hid (HXm.out.below hb)
          replace HXa := Lib.hid (HXa.out.below hb)
          rw [HPE.out] at he hR
          dsimp only at he hR
          subst he
          obtain ⟨A4, c4, rfl⟩ := Kd.R_slice hR
          clear HBwc
          obtain ⟨bx, hbx⟩ : ∃ y, y = w7.heap.size := ⟨_, rfl⟩
          obtain ⟨Wx, hWx⟩ : ∃ y, y = w7.alloc (.cells (Tk.cs P (.slice A4 P.js.length c4)).1 26) := ⟨_, rfl⟩
          have HPt := HXt
          have HPj := HXj
          have HPm := HXm
          have HPa := HXa
          replace HXt : Hid (TX Wx bt T v) := by rw [hWx]; exact Lib.hid (HXt.out.alloc _)
          replace HXj : Hid (JX Wx bj x) := by rw [hWx]; exact Lib.hid (HXj.out.alloc _)
          replace HXm : Hid (TX Wx bm T (.slice A1 T.js.length c1)) := by rw [hWx]; exact Lib.hid (HXm.out.alloc _)
          replace HXa : Hid (BKX Wx ba P (.slice A2 P.js.length c2)) := by rw [hWx]; exact Lib.hid (HXa.out.alloc _)
          have HXx : Hid (TX Wx bx P (.slice A4 P.js.length c4)) := by rw [hWx, hbx]; exact Lib.hid (TX.new (TR.of_R hR))
          have HBWx : Hid (Below w.heap.size w Wx) := by rw [hWx]; exact Lib.hid (below_alloc HBw7.out (Nat.le_refl _) _)
          have HWx := Lib.hid hWx
          have Hbx := Lib.hid hbx
          clear hWx hbx HBw7
          clear hb
          obtain ⟨tt_0, tt_1, tt_2, tt_3, tt_4, tt_5, tt_6, tt_7⟩ := HPt.out.t8
          have lt := HPt.out.lt
          obtain ⟨tj_0, tj_1, tj_2, tj_3⟩ := HPj.out.j4
          have lj := HPj.out.lt
          go_wp2_with fail
          rw [← HWx.out, ← Hbx.out]
          clear HPt HPj HPm HPa
          clear tt_0 tt_1 tt_2 tt_3 tt_4 tt_5 tt_6 tt_7 lt tj_0 tj_1 tj_2 tj_3 lj
          refine (rpush_any T _ x now _ HXt.out.tr HLb.out).mono ?_
          rintro e w8 ⟨v5, he, hR, hb⟩
          have HBw8 := Lib.hid (below_call HBWx.out (by first | exact Nat.le_refl _ | (have := HBW.out; omega)) hb)
          replace HXt := Lib.hid (HXt.out.below hb)
          replace HXj := Lib.hid (HXj.out.below hb)
          replace HXm := Lib.hid (HXm.out.below hb)
          replace HXa := Lib.hid (HXa.out.below hb)
          replace HXx := Lib.hid (HXx.out.below hb)
          rw [HPE.out] at he hR
          dsimp only at he hR
          subst he
          obtain ⟨A5, c5, rfl, -, -⟩ := id hR
          clear HBWx
          obtain ⟨bz, hbz⟩ : ∃ y, y = w8.heap.size := ⟨_, rfl⟩
          obtain ⟨Wz, hWz⟩ : ∃ y, y = w8.alloc (.cells (Tk.cs P (.slice A5 P.js.length c5)).1 26) := ⟨_, rfl⟩
          have HPt := HXt
          have HPj := HXj
          have HPm := HXm
          have HPa := HXa
          have HPx := HXx
          replace HXt : Hid (TX Wz bt T v) := by rw [hWz]; exact Lib.hid (HXt.out.alloc _)
          replace HXj : Hid (JX Wz bj x) := by rw [hWz]; exact Lib.hid (HXj.out.alloc _)
          replace HXm : Hid (TX Wz bm T (.slice A1 T.js.length c1)) := by rw [hWz]; exact Lib.hid (HXm.out.alloc _)
          replace HXa : Hid (BKX Wz ba P (.slice A2 P.js.length c2)) := by rw [hWz]; exact Lib.hid (HXa.out.alloc _)
          replace HXx : Hid (TX Wz bx P (.slice A4 P.js.length c4)) := by rw [hWz]; exact Lib.hid (HXx.out.alloc _)
          have HXz : Hid (TX Wz bz P (.slice A5 P.js.length c5)) := by rw [hWz, hbz]; exact Lib.hid (TX.new (hR))
          have HBWz : Hid (Below w.heap.size w Wz) := by rw [hWz]; exact Lib.hid (below_alloc HBw8.out (Nat.le_refl _) _)
          have HWz := Lib.hid hWz
          have Hbz := Lib.hid hbz
          clear hWz hbz HBw8
          clear hb
          obtain ⟨tm_0, tm_1, tm_2, tm_3, tm_4, tm_5, tm_6, tm_7⟩ := HPm.out.t8
          have lm := HPm.out.lt
          obtain ⟨tt_0, tt_1, tt_2, tt_3, tt_4, tt_5, tt_6, tt_7⟩ := HPt.out.t8
          have lt := HPt.out.lt
          go_wp2_with fail
          rw [← HWz.out, ← Hbz.out]
          clear HPt HPj HPm HPa HPx
          clear tm_0 tm_1 tm_2 tm_3 tm_4 tm_5 tm_6 tm_7 lm tt_0 tt_1 tt_2 tt_3 tt_4 tt_5 tt_6 tt_7 lt
          refine (same_t T _ _ _ HXm.out.tr HXt.out.tr HLb.out).mono ?_
          rintro e w9 ⟨rfl, hb⟩
          have HBw9 := Lib.hid (below_call HBWz.out (by first | exact Nat.le_refl _ | (have := HBW.out; omega)) hb)
          replace HXt := Lib.hid (HXt.out.below hb)
          replace HXj := Lib.hid (HXj.out.below hb)
          replace HXm := Lib.hid (HXm.out.below hb)
          replace HXa := Lib.hid (HXa.out.below hb)
          replace HXx := Lib.hid (HXx.out.below hb)
          replace HXz := Lib.hid (HXz.out.below hb)
          clear HBWz
          clear hb
          obtain ⟨tx_0, tx_1, tx_2, tx_3, tx_4, tx_5, tx_6, tx_7⟩ := HXx.out.t8
          have lx := HXx.out.lt
          obtain ⟨tz_0, tz_1, tz_2, tz_3, tz_4, tz_5, tz_6, tz_7⟩ := HXz.out.t8
          have lz := HXz.out.lt
          go_wp2_with fail
          clear tx_0 tx_1 tx_2 tx_3 tx_4 tx_5 tx_6 tx_7 lx tz_0 tz_1 tz_2 tz_3 tz_4 tz_5 tz_6 tz_7 lz
          refine (same_t P _ _ _ HXx.out.tr HXz.out.tr (by have := HPl.out; omega)).mono ?_
          rintro e w10 ⟨rfl, hb⟩
          have HBw10 := Lib.hid (below_call HBw9.out (by first | exact Nat.le_refl _ | (have := HBW.out; omega)) hb)
          replace HXt := Lib.hid (HXt.out.below hb)
          replace HXj := Lib.hid (HXj.out.below hb)
          replace HXm := Lib.hid (HXm.out.below hb)
          replace HXa := Lib.hid (HXa.out.below hb)
          replace HXx := Lib.hid (HXx.out.below hb)
          replace HXz := Lib.hid (HXz.out.below hb)
          clear HBw9
          clear hb
          go_wp2_with fail
          refine (num_c E _).mono ?_
          rintro e w_ ⟨rfl, rfl⟩
          go_wp2_with fail
          refine (num_c E _).mono ?_
          rintro e w_ ⟨rfl, rfl⟩
          have ta1 := HXa.out.c1
          have hf0 := HF0.out
          by_cases hF : F = 0
          · rw [hF, show errV 0 = .nilIface from rfl]
            go_wp2_with fail
            refine (works_ok _).mono ?_
            rintro e we ⟨rfl, hb⟩
            have HBE := below_call HBw10.out (Nat.le_refl _) hb
            go_wp2
            go_ret
            exact ⟨rfl, HBE⟩
          · rw [errV_n hF]
            go_wp2_with fail
            refine (num_errno F _).mono ?_
            rintro e w_ ⟨rfl, rfl⟩
            have tF : decide ((0 : Int) < F) = true := decide_eq_true (by omega)
            go_wp2_with fail
            refine (works_ok _).mono ?_
            rintro e we ⟨rfl, hb⟩
            have HBE := below_call HBw10.out (Nat.le_refl _) hb
            go_wp2
            go_ret
            exact ⟨rfl, HBE⟩

theorem lown_rd {cs0 cs1 : Array Value} (now : Int) {w : World} (h0 : Rd26 w cs0.toList) (h1 : Rd28 w cs1.toList) :
    Calls Tryd.prog 5 #[.agg cs0, .agg cs1, .int .i64 now] w fun e w' => e = .returned (.bool true) ∧ Below w.heap.size w w' := by
  obtain ⟨T, v, e0, h, hl⟩ := task_of_rd h0
  obtain ⟨x, e1⟩ := job_of_rd h1
  obtain rfl : cs0 = (T.cs v).1 := Array.toList_inj.1 e0
  obtain rfl : cs1 = (jcs x).1 := Array.toList_inj.1 e1
  exact lown_ok T v x now w h hl

end Go.Proofs.YtkfjlkpickeobaaDoor
