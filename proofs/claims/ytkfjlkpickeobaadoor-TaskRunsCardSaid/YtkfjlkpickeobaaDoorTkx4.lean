/- titheref12.Run, by contract: ways. Printed by gen_tkq.py (this repo's). -/
import Derived.Test.YtkfjlkpickeobaaDoorTkx0
set_option linter.unusedVariables false
set_option linter.unusedSimpArgs false
namespace Go.Proofs.YtkfjlkpickeobaaDoor
open Go.RowKit
open Go.Proofs.YtkfjlkpickeobaaDoorW.PrintWords (Kd Drawn0 Kept rd rdOf)
open Go.Proofs.YtkfjlkpickeobaaDoorW.PrintMore (max2_int max_two)
open Go.Proofs.YtkfjlkpickeobaaDoor.PTaskRuns
set_option maxRecDepth 100000

set_option maxHeartbeats 4000000 in
theorem rrun_cn (T : Tk) (v : Value) (now : Int) (w : World) (h : TR w v T.js) (x : Jb) (r : List Jb) (hxr : T.js = x :: r) (hk : T.okB = true) (hn : decide (now < 0) = false) (hn2 : decide (1073741824 ≤ now) = false) (hj : decide (0 < T.js.length) = true) (hg : (T.g == 1073741824) = false) (b1 : 0 ≤ T.g) (b2 : T.g ≤ 1073741824) (b3 : 0 ≤ T.o) (b4 : T.o ≤ 1073741824) (d1 : 0 ≤ T.d) (d2 : T.d ≤ 1073741824) (k1 : 0 ≤ T.c) (k2 : T.c ≤ 1073741824) (l1 : 0 ≤ T.t) (l2 : T.t ≤ 2147483648) (n0 : 0 ≤ now) (n1 : now ≤ 1073741823) (x0 : 1 ≤ x.f0) (x0' : x.f0 ≤ 1048576) (x1 : 0 ≤ x.f1) (x1' : x.f1 ≤ 1048576) (x2 : 0 ≤ x.f2) (x2' : x.f2 ≤ 1073741824) (x3 : 0 ≤ x.f3) (x3' : x.f3 ≤ 1073741824) (c1' : decide (0 < x.f1) = true) (y0 : Int) (hy0 : y0 = x.f0 - 1) (e0 : (y0 == 0) = false) (y1 : Int) (hy1 : y1 = x.f1 - 1) (e1 : (y1 == 0) = true) (s1 : decide (0 < x.f3) = false) :
    Calls Tryd.prog 17 #[T.v v, .int .i64 now] w fun e w' => ∃ v', e = .returned (.tuple #[Tk.v ⟨T.p, r, T.g + 1, T.o + 1, T.l, T.d, T.c + 1, T.t⟩ v', .int .i64 2, .int .i64 0, .int .i64 0]) ∧ TR w' v' (Tk.js ⟨T.p, r, T.g + 1, T.o + 1, T.l, T.d, T.c + 1, T.t⟩) ∧ Below w.heap.size w w' := by
  obtain ⟨n, hn0⟩ : ∃ n, n = T.js.length := ⟨_, rfl⟩
  have hnr : n = r.length + 1 := by rw [hn0, hxr]; rfl
  have hn8 : n ≤ 8 := by rw [hn0]; exact Tk.ok_len hk
  obtain ⟨A, c, rfl, -, -⟩ := id h
  rw [← hn0] at h ⊢
  have HN0 := Lib.hid hn0
  have HNR := Lib.hid hnr
  have HJ := Lib.hid hj
  have HXR := Lib.hid hxr
  have HY0 := Lib.hid hy0
  have HY1 := Lib.hid hy1
  clear hn0 hnr hj hxr hy0 hy1
  obtain ⟨W0, hW0⟩ : ∃ y, y = (w.alloc (.cells #[.int .i64 T.p, .slice A n c, .int .i64 T.g, .int .i64 T.o, .int .i64 T.l, .int .i64 T.d, .int .i64 T.c, .int .i64 T.t] 26)).alloc (.cells #[.int .i64 0, .slice none 0 0, .int .i64 0, .int .i64 0, .int .i64 0, .int .i64 0, .int .i64 0, .int .i64 0] 26) := ⟨_, rfl⟩
  have hx : BX w.heap.size w W0 [T.cs (.slice A n c), zT.cs nilS] := by rw [hW0]; exact BX.new w [T.cs (.slice A n c), zT.cs nilS]
  have HX := Lib.hid hx
  have HW0 := Lib.hid hW0
  have HR := Lib.hid h
  have HK := Lib.hid hk
  clear h hx hW0 hk
  go_enter Tryd.func17, Tryd.ntmps17
  go_wp2_with fail
  rw [← HW0.out]
  generalize hbw : w.heap.size = bw at *
  refine (rvalid_yes T (.slice A n c) W0 (HR.out.below (by rw [hbw]; exact HX.out.be)) HK.out).mono ?_
  rintro e w1 ⟨rfl, hb⟩
  have HX1 := Lib.hid (HX.out.call hb)
  clear hb HX
  obtain ⟨t0, t1, t2, t3, t4, t5, t6, t7⟩ := HX1.out.t8 (T := T) (b := bw) 0 rfl rfl
  go_wp2_with fail
  refine (rready_c T (.slice A n c) true w1 (HR.out.below (by rw [hbw]; exact HX1.out.be)) HJ.out).mono ?_
  rintro e w3 ⟨rfl, hb⟩
  have HX3 := Lib.hid (HX1.out.call hb)
  clear hb HX1 t0 t1 t2 t3 t4 t5 t6 t7
  obtain ⟨t0, t1, t2, t3, t4, t5, t6, t7⟩ := HX3.out.t8 (T := T) (b := bw) 0 rfl rfl
  go_wp2_with fail
  refine (twin_c T (.slice A n c) w3 (HR.out.below (by rw [hbw]; exact HX3.out.be)) (by have := HN0.out; omega)).mono ?_
  rintro e w5 ⟨v5, rfl, hR, hb⟩
  have HX5 := Lib.hid (HX3.out.call hb)
  have hs3 := HX3.out.size (by simp)
  obtain ⟨g, c5, hv5, hg5, hgl, -⟩ := Kd.R_form hR (by have := HN0.out; have := HNR.out; omega)
  rw [← HN0.out] at hv5
  subst hv5
  have hR5 : kJ.R 28 w5 (bw + 2) (fun _ => True) (.slice (some ⟨g, 0, none⟩) n c5) (x :: r) := by rw [← HXR.out]; exact Kd.R_lower hR hs3
  have hgb : bw + 2 ≤ g := Nat.le_trans hs3 hg5
  obtain ⟨⟨y0', y1', y2', y3'⟩, ⟨z0, z1, z2, z3⟩⟩ := R_cells0 hR5
  obtain ⟨u0, u1, u2, u3, u4, u5, u6, u7⟩ := HX5.out.f8 (b := bw) 0 rfl rfl
  obtain ⟨s0, s1', s2', s3, s4, s5, s6, s7⟩ := HX5.out.t8 (T := T) (v := .slice A n c) (b := bw) 0 rfl rfl
  have HR5 := Lib.hid hR5
  have hgw : g < w5.heap.size := hgl
  have hbw5 : bw < w5.heap.size := HX5.out.lt (i := 0) (by simp)
  have hnp : 0 < n := by have := HNR.out; omega
  have q0 : x.f0 - 1 = y0 := HY0.out.symm
  have q1 : x.f1 - 1 = y1 := HY1.out.symm
  clear hb hR hR5 hs3 hg5 hgl HX3 t0 t1 t2 t3 t4 t5 t6 t7
  go_upto_region 18 with (fail)
  obtain ⟨W6, hW6⟩ : ∃ y, y = ((((((((w5.setCell ⟨bw, 0, none⟩ (.int .i64 T.p)).setCell ⟨bw, 1, none⟩ (.slice (some ⟨g, 0, none⟩) n c5)).setCell ⟨bw, 2, none⟩ (.int .i64 T.g)).setCell ⟨bw, 3, none⟩ (.int .i64 T.o)).setCell ⟨bw, 4, none⟩ (.int .i64 T.l)).setCell ⟨bw, 5, none⟩ (.int .i64 T.d)).setCell ⟨bw, 6, none⟩ (.int .i64 T.c)).setCell ⟨bw, 7, none⟩ (.int .i64 T.t)) := ⟨_, rfl⟩
  rw [← hW6]
  have h6 : BX bw w W6 [T.cs (.slice (some ⟨g, 0, none⟩) n c5), zT.cs nilS] := by
    rw [hW6]
    exact HX5.out.set8 0 rfl (t := 26) rfl _ _ _ _ _ _ _ _
  have r6 : kJ.R 28 W6 (bw + 2) (fun _ => True) (.slice (some ⟨g, 0, none⟩) n c5) (x :: r) := by
    refine Kd.R_mono (Kd.R_step (Kd.R_bound HR5.out) (fun k hk hlt => ?_)) (fun _ _ => trivial)
    have hk' : bw + 2 ≤ k := hk.2.1
    rw [hW6]
    exact heap_set8 (by omega) _ _ _ _ _ _ _ _
  have hz6 : w5.heap.size = W6.heap.size := by rw [hW6]; simp
  clear hW6
  obtain ⟨jb, hjb⟩ : ∃ b, b = w5.heap.size := ⟨_, rfl⟩
  rw [← hjb]
  rw [hz6] at hjb hgw hbw5
  obtain ⟨W7, hW7⟩ : ∃ y, y = ((((((W6.setCell ⟨bw, 2, none⟩ (.int .i64 (T.g + 1))).setCell ⟨bw, 3, none⟩ (.int .i64 (T.o + 1))).setCell ⟨g, 0, none⟩ (.int .i64 y0)).setCell ⟨g, 1, none⟩ (.int .i64 y1)).setCell ⟨g, 2, none⟩ (.int .i64 x.f2)).setCell ⟨g, 3, none⟩ (.int .i64 x.f3)).alloc (.cells #[.int .i64 y0, .int .i64 y1, .int .i64 x.f2, .int .i64 x.f3] 28) := ⟨_, rfl⟩
  rw [← hW7]
  have h7 : BX bw w W7 [Tk.cs ⟨T.p, T.js, T.g + 1, T.o + 1, T.l, T.d, T.c, T.t⟩ (.slice (some ⟨g, 0, none⟩) n c5), zT.cs nilS] := by
    rw [hW7]
    have k1 := (h6.set 0 2 (.int .i64 (T.g + 1)) (c := T.cs (.slice (some ⟨g, 0, none⟩) n c5)) rfl).set 0 3 (.int .i64 (T.o + 1)) rfl
    have k2 := k1.chg (S := fun k => k = g) (((((Chg.refl (fun k => k = g) _).setCell ⟨g, 0, none⟩ (.int .i64 y0) rfl).setCell ⟨g, 1, none⟩ (.int .i64 y1) rfl).setCell ⟨g, 2, none⟩ (.int .i64 x.f2) rfl).setCell ⟨g, 3, none⟩ (.int .i64 x.f3) rfl) (fun k e => by have e' : k = g := e; rw [e']; exact hgb)
    exact k2.alloc _
  have r7 : kJ.R 28 W7 (bw + 2) (fun _ => True) (.slice (some ⟨g, 0, none⟩) n c5) ((⟨y0, y1, x.f2, x.f3⟩ : Jb) :: r) := by
    rw [hW7]
    have k1 : kJ.R 28 ((W6.setCell ⟨bw, 2, none⟩ (.int .i64 (T.g + 1))).setCell ⟨bw, 3, none⟩ (.int .i64 (T.o + 1))) (bw + 2) (fun _ => True) (.slice (some ⟨g, 0, none⟩) n c5) (x :: r) := by
      refine Kd.R_mono (Kd.R_step (Kd.R_bound r6) (fun k hk hlt => ?_)) (fun _ _ => trivial)
      have hk' : bw + 2 ≤ k := hk.2.1
      have m1 : k ≠ bw := by omega
      rw [Below.heap_setCell _ _ _ _ m1, Below.heap_setCell _ _ _ _ m1]
    have k2 := R_set0 (x' := (⟨y0, y1, x.f2, x.f3⟩ : Jb)) k1
    exact Kd.R_alloc k2 _
  have j7 : W7.heap[jb]? = some (.cells (jcs (⟨y0, y1, x.f2, x.f3⟩ : Jb)).1 28 (0, 0)) := by
    have := alloc_new ((((((W6.setCell ⟨bw, 2, none⟩ (.int .i64 (T.g + 1))).setCell ⟨bw, 3, none⟩ (.int .i64 (T.o + 1))).setCell ⟨g, 0, none⟩ (.int .i64 y0)).setCell ⟨g, 1, none⟩ (.int .i64 y1)).setCell ⟨g, 2, none⟩ (.int .i64 x.f2)).setCell ⟨g, 3, none⟩ (.int .i64 x.f3)) (.cells #[.int .i64 y0, .int .i64 y1, .int .i64 x.f2, .int .i64 x.f3] 28)
    rw [← hW7] at this
    rw [hjb]
    simpa using this
  have hjw : jb ≠ bw := by omega
  have hjw2 : jb ≠ bw + 1 := by have := h6.size (by simp); simp at this; omega
  obtain ⟨j0, j1, j2, j3⟩ := box_cells (x := (⟨y0, y1, x.f2, x.f3⟩ : Jb)) j7
  dsimp only at j0 j1 j2 j3
  obtain ⟨t0, t1, t2, t3, t4, t5, t6, t7⟩ := h7.t8 (T := ⟨T.p, T.js, T.g + 1, T.o + 1, T.l, T.d, T.c, T.t⟩) (b := bw) 0 rfl rfl
  clear u0 u1 u2 u3 u4 u5 u6 u7 s0 s1' s2' s3 s4 s5 s6 s7 y0' y1' y2' y3' z0 z1 z2 z3 q0 q1
  obtain ⟨u0, u1, u2, u3, u4, u5, u6, u7⟩ := h7.f8 (b := bw) 0 rfl rfl
  obtain ⟨r0, r1, r2, r3, r4, r5, r6', r7'⟩ := h7.t8 (T := zT) (b := bw + 1) 1 rfl rfl
  obtain ⟨f0, f1, f2, f3, f4, f5, f6, f7⟩ := h7.f8 (b := bw + 1) 1 rfl rfl
  have HX7 := Lib.hid h7
  have HR7 := Lib.hid r7
  have HFIN : Hid (∀ W', Chg (fun k => k = bw ∨ k = bw + 1) W7 W' → kJ.R 28 W' (bw + 2) (fun _ => True) (.slice (some ⟨g, 0, none⟩) n c5) ((⟨y0, y1, x.f2, x.f3⟩ : Jb) :: r) ∧ Below bw w W') := Lib.hid (fun W' hc => ⟨Kd.R_mono (Kd.R_step (Kd.R_bound r7) (fun k hk hlt => hc.block k hlt (by have hk' : bw + 2 ≤ k := hk.2.1; omega))) (fun _ _ => trivial), h7.be.trans (hc.below (Nat.le_trans h7.le h7.be.size) (fun k hk => by omega))⟩)
  clear hW7 h7 r7 j7 h6 r6 hz6 hjb hgw hbw5
  by_cases hc1 : c5 = 1
  · subst hc1
    obtain rfl : n = 1 := by have := (Kd.R_reads' HR7.out).2.1; omega
    go_wp2
    refine bodyPost_ret (v := .tuple #[Tk.v ⟨T.p, r, T.g + 1, T.o + 1, T.l, T.d, T.c + 1, T.t⟩ (.slice (some ⟨g, 0, none⟩) 0 0), .int .i64 2, .int .i64 0, .int .i64 0]) (by simp [results, Tryd.results17, go_sem, r0, r1, r2, r3, r4, r5, r6', r7']) rfl ⟨_, rfl, ?_, ?_⟩
    · have hr : r = [] := by have := HNR.out; exact List.length_eq_zero_iff.1 (by omega)
      show TR _ _ r
      rw [hr]
      exact ⟨some ⟨g, 0, none⟩, 0, rfl, Nat.le_refl _, ⟨rfl, by simp, fun h => absurd h (Nat.lt_irrefl 0)⟩⟩
    · try rw [hbw]
      refine (HFIN.out _ ?_).2
      repeat (first | (with_reducible exact Chg.refl _ _) | (with_reducible refine Chg.setCell ?_ _ _ (by first | exact Or.inl rfl | exact Or.inr rfl)))
  · have hc2 : ¬ 1 = c5 := fun h => hc1 h.symm
    have hc3 : 1 ≤ c5 := by have := (Kd.R_reads' HR7.out).2.1; omega
    go_wp2
    refine bodyPost_ret (v := .tuple #[Tk.v ⟨T.p, r, T.g + 1, T.o + 1, T.l, T.d, T.c + 1, T.t⟩ (.slice (some ⟨g, 4, none⟩) (n - 1) (c5 - 1)), .int .i64 2, .int .i64 0, .int .i64 0]) (by simp [results, Tryd.results17, go_sem, r0, r1, r2, r3, r4, r5, r6', r7']) rfl ⟨_, rfl, ?_, ?_⟩
    · refine TR_drop1 (HFIN.out _ ?_).1 hc1 HNR.out
      repeat (first | (with_reducible exact Chg.refl _ _) | (with_reducible refine Chg.setCell ?_ _ _ (by first | exact Or.inl rfl | exact Or.inr rfl)))
    · try rw [hbw]
      refine (HFIN.out _ ?_).2
      repeat (first | (with_reducible exact Chg.refl _ _) | (with_reducible refine Chg.setCell ?_ _ _ (by first | exact Or.inl rfl | exact Or.inr rfl)))
set_option maxHeartbeats 4000000 in
theorem rrun_ci (T : Tk) (v : Value) (now : Int) (w : World) (h : TR w v T.js) (x : Jb) (r : List Jb) (hxr : T.js = x :: r) (hk : T.okB = true) (hn : decide (now < 0) = false) (hn2 : decide (1073741824 ≤ now) = false) (hj : decide (0 < T.js.length) = true) (hg : (T.g == 1073741824) = false) (b1 : 0 ≤ T.g) (b2 : T.g ≤ 1073741824) (b3 : 0 ≤ T.o) (b4 : T.o ≤ 1073741824) (d1 : 0 ≤ T.d) (d2 : T.d ≤ 1073741824) (k1 : 0 ≤ T.c) (k2 : T.c ≤ 1073741824) (l1 : 0 ≤ T.t) (l2 : T.t ≤ 2147483648) (n0 : 0 ≤ now) (n1 : now ≤ 1073741823) (x0 : 1 ≤ x.f0) (x0' : x.f0 ≤ 1048576) (x1 : 0 ≤ x.f1) (x1' : x.f1 ≤ 1048576) (x2 : 0 ≤ x.f2) (x2' : x.f2 ≤ 1073741824) (x3 : 0 ≤ x.f3) (x3' : x.f3 ≤ 1073741824) (c1' : decide (0 < x.f1) = true) (y0 : Int) (hy0 : y0 = x.f0 - 1) (e0 : (y0 == 0) = false) (y1 : Int) (hy1 : y1 = x.f1 - 1) (e1 : (y1 == 0) = true) (s1 : decide (0 < x.f3) = true) (ov : Int) (hov : ov = now + 1 - x.f2 - x.f3) (s2 : decide (0 < ov) = false) :
    Calls Tryd.prog 17 #[T.v v, .int .i64 now] w fun e w' => ∃ v', e = .returned (.tuple #[Tk.v ⟨T.p, r, T.g + 1, T.o + 1, T.l, T.d, T.c + 1, T.t⟩ v', .int .i64 2, .int .i64 0, .int .i64 0]) ∧ TR w' v' (Tk.js ⟨T.p, r, T.g + 1, T.o + 1, T.l, T.d, T.c + 1, T.t⟩) ∧ Below w.heap.size w w' := by
  obtain ⟨n, hn0⟩ : ∃ n, n = T.js.length := ⟨_, rfl⟩
  have hnr : n = r.length + 1 := by rw [hn0, hxr]; rfl
  have hn8 : n ≤ 8 := by rw [hn0]; exact Tk.ok_len hk
  obtain ⟨A, c, rfl, -, -⟩ := id h
  rw [← hn0] at h ⊢
  have HN0 := Lib.hid hn0
  have HNR := Lib.hid hnr
  have HJ := Lib.hid hj
  have HXR := Lib.hid hxr
  have HY0 := Lib.hid hy0
  have HY1 := Lib.hid hy1
  have HOV := Lib.hid hov
  clear hov
  clear hn0 hnr hj hxr hy0 hy1
  obtain ⟨W0, hW0⟩ : ∃ y, y = (w.alloc (.cells #[.int .i64 T.p, .slice A n c, .int .i64 T.g, .int .i64 T.o, .int .i64 T.l, .int .i64 T.d, .int .i64 T.c, .int .i64 T.t] 26)).alloc (.cells #[.int .i64 0, .slice none 0 0, .int .i64 0, .int .i64 0, .int .i64 0, .int .i64 0, .int .i64 0, .int .i64 0] 26) := ⟨_, rfl⟩
  have hx : BX w.heap.size w W0 [T.cs (.slice A n c), zT.cs nilS] := by rw [hW0]; exact BX.new w [T.cs (.slice A n c), zT.cs nilS]
  have HX := Lib.hid hx
  have HW0 := Lib.hid hW0
  have HR := Lib.hid h
  have HK := Lib.hid hk
  clear h hx hW0 hk
  go_enter Tryd.func17, Tryd.ntmps17
  go_wp2_with fail
  rw [← HW0.out]
  generalize hbw : w.heap.size = bw at *
  refine (rvalid_yes T (.slice A n c) W0 (HR.out.below (by rw [hbw]; exact HX.out.be)) HK.out).mono ?_
  rintro e w1 ⟨rfl, hb⟩
  have HX1 := Lib.hid (HX.out.call hb)
  clear hb HX
  obtain ⟨t0, t1, t2, t3, t4, t5, t6, t7⟩ := HX1.out.t8 (T := T) (b := bw) 0 rfl rfl
  go_wp2_with fail
  refine (rready_c T (.slice A n c) true w1 (HR.out.below (by rw [hbw]; exact HX1.out.be)) HJ.out).mono ?_
  rintro e w3 ⟨rfl, hb⟩
  have HX3 := Lib.hid (HX1.out.call hb)
  clear hb HX1 t0 t1 t2 t3 t4 t5 t6 t7
  obtain ⟨t0, t1, t2, t3, t4, t5, t6, t7⟩ := HX3.out.t8 (T := T) (b := bw) 0 rfl rfl
  go_wp2_with fail
  refine (twin_c T (.slice A n c) w3 (HR.out.below (by rw [hbw]; exact HX3.out.be)) (by have := HN0.out; omega)).mono ?_
  rintro e w5 ⟨v5, rfl, hR, hb⟩
  have HX5 := Lib.hid (HX3.out.call hb)
  have hs3 := HX3.out.size (by simp)
  obtain ⟨g, c5, hv5, hg5, hgl, -⟩ := Kd.R_form hR (by have := HN0.out; have := HNR.out; omega)
  rw [← HN0.out] at hv5
  subst hv5
  have hR5 : kJ.R 28 w5 (bw + 2) (fun _ => True) (.slice (some ⟨g, 0, none⟩) n c5) (x :: r) := by rw [← HXR.out]; exact Kd.R_lower hR hs3
  have hgb : bw + 2 ≤ g := Nat.le_trans hs3 hg5
  obtain ⟨⟨y0', y1', y2', y3'⟩, ⟨z0, z1, z2, z3⟩⟩ := R_cells0 hR5
  obtain ⟨u0, u1, u2, u3, u4, u5, u6, u7⟩ := HX5.out.f8 (b := bw) 0 rfl rfl
  obtain ⟨s0, s1', s2', s3, s4, s5, s6, s7⟩ := HX5.out.t8 (T := T) (v := .slice A n c) (b := bw) 0 rfl rfl
  have HR5 := Lib.hid hR5
  have hgw : g < w5.heap.size := hgl
  have hbw5 : bw < w5.heap.size := HX5.out.lt (i := 0) (by simp)
  have hnp : 0 < n := by have := HNR.out; omega
  have q0 : x.f0 - 1 = y0 := HY0.out.symm
  have q1 : x.f1 - 1 = y1 := HY1.out.symm
  clear hb hR hR5 hs3 hg5 hgl HX3 t0 t1 t2 t3 t4 t5 t6 t7
  go_upto_region 18 with (fail)
  obtain ⟨W6, hW6⟩ : ∃ y, y = ((((((((w5.setCell ⟨bw, 0, none⟩ (.int .i64 T.p)).setCell ⟨bw, 1, none⟩ (.slice (some ⟨g, 0, none⟩) n c5)).setCell ⟨bw, 2, none⟩ (.int .i64 T.g)).setCell ⟨bw, 3, none⟩ (.int .i64 T.o)).setCell ⟨bw, 4, none⟩ (.int .i64 T.l)).setCell ⟨bw, 5, none⟩ (.int .i64 T.d)).setCell ⟨bw, 6, none⟩ (.int .i64 T.c)).setCell ⟨bw, 7, none⟩ (.int .i64 T.t)) := ⟨_, rfl⟩
  rw [← hW6]
  have h6 : BX bw w W6 [T.cs (.slice (some ⟨g, 0, none⟩) n c5), zT.cs nilS] := by
    rw [hW6]
    exact HX5.out.set8 0 rfl (t := 26) rfl _ _ _ _ _ _ _ _
  have r6 : kJ.R 28 W6 (bw + 2) (fun _ => True) (.slice (some ⟨g, 0, none⟩) n c5) (x :: r) := by
    refine Kd.R_mono (Kd.R_step (Kd.R_bound HR5.out) (fun k hk hlt => ?_)) (fun _ _ => trivial)
    have hk' : bw + 2 ≤ k := hk.2.1
    rw [hW6]
    exact heap_set8 (by omega) _ _ _ _ _ _ _ _
  have hz6 : w5.heap.size = W6.heap.size := by rw [hW6]; simp
  clear hW6
  obtain ⟨jb, hjb⟩ : ∃ b, b = w5.heap.size := ⟨_, rfl⟩
  rw [← hjb]
  rw [hz6] at hjb hgw hbw5
  obtain ⟨W7, hW7⟩ : ∃ y, y = ((((((W6.setCell ⟨bw, 2, none⟩ (.int .i64 (T.g + 1))).setCell ⟨bw, 3, none⟩ (.int .i64 (T.o + 1))).setCell ⟨g, 0, none⟩ (.int .i64 y0)).setCell ⟨g, 1, none⟩ (.int .i64 y1)).setCell ⟨g, 2, none⟩ (.int .i64 x.f2)).setCell ⟨g, 3, none⟩ (.int .i64 x.f3)).alloc (.cells #[.int .i64 y0, .int .i64 y1, .int .i64 x.f2, .int .i64 x.f3] 28) := ⟨_, rfl⟩
  rw [← hW7]
  have h7 : BX bw w W7 [Tk.cs ⟨T.p, T.js, T.g + 1, T.o + 1, T.l, T.d, T.c, T.t⟩ (.slice (some ⟨g, 0, none⟩) n c5), zT.cs nilS] := by
    rw [hW7]
    have k1 := (h6.set 0 2 (.int .i64 (T.g + 1)) (c := T.cs (.slice (some ⟨g, 0, none⟩) n c5)) rfl).set 0 3 (.int .i64 (T.o + 1)) rfl
    have k2 := k1.chg (S := fun k => k = g) (((((Chg.refl (fun k => k = g) _).setCell ⟨g, 0, none⟩ (.int .i64 y0) rfl).setCell ⟨g, 1, none⟩ (.int .i64 y1) rfl).setCell ⟨g, 2, none⟩ (.int .i64 x.f2) rfl).setCell ⟨g, 3, none⟩ (.int .i64 x.f3) rfl) (fun k e => by have e' : k = g := e; rw [e']; exact hgb)
    exact k2.alloc _
  have r7 : kJ.R 28 W7 (bw + 2) (fun _ => True) (.slice (some ⟨g, 0, none⟩) n c5) ((⟨y0, y1, x.f2, x.f3⟩ : Jb) :: r) := by
    rw [hW7]
    have k1 : kJ.R 28 ((W6.setCell ⟨bw, 2, none⟩ (.int .i64 (T.g + 1))).setCell ⟨bw, 3, none⟩ (.int .i64 (T.o + 1))) (bw + 2) (fun _ => True) (.slice (some ⟨g, 0, none⟩) n c5) (x :: r) := by
      refine Kd.R_mono (Kd.R_step (Kd.R_bound r6) (fun k hk hlt => ?_)) (fun _ _ => trivial)
      have hk' : bw + 2 ≤ k := hk.2.1
      have m1 : k ≠ bw := by omega
      rw [Below.heap_setCell _ _ _ _ m1, Below.heap_setCell _ _ _ _ m1]
    have k2 := R_set0 (x' := (⟨y0, y1, x.f2, x.f3⟩ : Jb)) k1
    exact Kd.R_alloc k2 _
  have j7 : W7.heap[jb]? = some (.cells (jcs (⟨y0, y1, x.f2, x.f3⟩ : Jb)).1 28 (0, 0)) := by
    have := alloc_new ((((((W6.setCell ⟨bw, 2, none⟩ (.int .i64 (T.g + 1))).setCell ⟨bw, 3, none⟩ (.int .i64 (T.o + 1))).setCell ⟨g, 0, none⟩ (.int .i64 y0)).setCell ⟨g, 1, none⟩ (.int .i64 y1)).setCell ⟨g, 2, none⟩ (.int .i64 x.f2)).setCell ⟨g, 3, none⟩ (.int .i64 x.f3)) (.cells #[.int .i64 y0, .int .i64 y1, .int .i64 x.f2, .int .i64 x.f3] 28)
    rw [← hW7] at this
    rw [hjb]
    simpa using this
  have hjw : jb ≠ bw := by omega
  have hjw2 : jb ≠ bw + 1 := by have := h6.size (by simp); simp at this; omega
  obtain ⟨j0, j1, j2, j3⟩ := box_cells (x := (⟨y0, y1, x.f2, x.f3⟩ : Jb)) j7
  dsimp only at j0 j1 j2 j3
  obtain ⟨t0, t1, t2, t3, t4, t5, t6, t7⟩ := h7.t8 (T := ⟨T.p, T.js, T.g + 1, T.o + 1, T.l, T.d, T.c, T.t⟩) (b := bw) 0 rfl rfl
  clear u0 u1 u2 u3 u4 u5 u6 u7 s0 s1' s2' s3 s4 s5 s6 s7 y0' y1' y2' y3' z0 z1 z2 z3 q0 q1
  obtain ⟨u0, u1, u2, u3, u4, u5, u6, u7⟩ := h7.f8 (b := bw) 0 rfl rfl
  obtain ⟨r0, r1, r2, r3, r4, r5, r6', r7'⟩ := h7.t8 (T := zT) (b := bw + 1) 1 rfl rfl
  obtain ⟨f0, f1, f2, f3, f4, f5, f6, f7⟩ := h7.f8 (b := bw + 1) 1 rfl rfl
  have HX7 := Lib.hid h7
  have HR7 := Lib.hid r7
  have HFIN : Hid (∀ W', Chg (fun k => k = bw ∨ k = bw + 1) W7 W' → kJ.R 28 W' (bw + 2) (fun _ => True) (.slice (some ⟨g, 0, none⟩) n c5) ((⟨y0, y1, x.f2, x.f3⟩ : Jb) :: r) ∧ Below bw w W') := Lib.hid (fun W' hc => ⟨Kd.R_mono (Kd.R_step (Kd.R_bound r7) (fun k hk hlt => hc.block k hlt (by have hk' : bw + 2 ≤ k := hk.2.1; omega))) (fun _ _ => trivial), h7.be.trans (hc.below (Nat.le_trans h7.le h7.be.size) (fun k hk => by omega))⟩)
  clear hW7 h7 r7 j7 h6 r6 hz6 hjb hgw hbw5
  have sv : now + 1 - x.f2 - x.f3 = ov := HOV.out.symm
  have sp : ¬ 0 < ov := of_decide_eq_false s2
  by_cases hc1 : c5 = 1
  · subst hc1
    obtain rfl : n = 1 := by have := (Kd.R_reads' HR7.out).2.1; omega
    go_wp2
    refine bodyPost_ret (v := .tuple #[Tk.v ⟨T.p, r, T.g + 1, T.o + 1, T.l, T.d, T.c + 1, T.t⟩ (.slice (some ⟨g, 0, none⟩) 0 0), .int .i64 2, .int .i64 0, .int .i64 0]) (by simp [results, Tryd.results17, go_sem, r0, r1, r2, r3, r4, r5, r6', r7']) rfl ⟨_, rfl, ?_, ?_⟩
    · have hr : r = [] := by have := HNR.out; exact List.length_eq_zero_iff.1 (by omega)
      show TR _ _ r
      rw [hr]
      exact ⟨some ⟨g, 0, none⟩, 0, rfl, Nat.le_refl _, ⟨rfl, by simp, fun h => absurd h (Nat.lt_irrefl 0)⟩⟩
    · try rw [hbw]
      refine (HFIN.out _ ?_).2
      repeat (first | (with_reducible exact Chg.refl _ _) | (with_reducible refine Chg.setCell ?_ _ _ (by first | exact Or.inl rfl | exact Or.inr rfl)))
  · have hc2 : ¬ 1 = c5 := fun h => hc1 h.symm
    have hc3 : 1 ≤ c5 := by have := (Kd.R_reads' HR7.out).2.1; omega
    go_wp2
    refine bodyPost_ret (v := .tuple #[Tk.v ⟨T.p, r, T.g + 1, T.o + 1, T.l, T.d, T.c + 1, T.t⟩ (.slice (some ⟨g, 4, none⟩) (n - 1) (c5 - 1)), .int .i64 2, .int .i64 0, .int .i64 0]) (by simp [results, Tryd.results17, go_sem, r0, r1, r2, r3, r4, r5, r6', r7']) rfl ⟨_, rfl, ?_, ?_⟩
    · refine TR_drop1 (HFIN.out _ ?_).1 hc1 HNR.out
      repeat (first | (with_reducible exact Chg.refl _ _) | (with_reducible refine Chg.setCell ?_ _ _ (by first | exact Or.inl rfl | exact Or.inr rfl)))
    · try rw [hbw]
      refine (HFIN.out _ ?_).2
      repeat (first | (with_reducible exact Chg.refl _ _) | (with_reducible refine Chg.setCell ?_ _ _ (by first | exact Or.inl rfl | exact Or.inr rfl)))
set_option maxHeartbeats 4000000 in
theorem rrun_cl (T : Tk) (v : Value) (now : Int) (w : World) (h : TR w v T.js) (x : Jb) (r : List Jb) (hxr : T.js = x :: r) (hk : T.okB = true) (hn : decide (now < 0) = false) (hn2 : decide (1073741824 ≤ now) = false) (hj : decide (0 < T.js.length) = true) (hg : (T.g == 1073741824) = false) (b1 : 0 ≤ T.g) (b2 : T.g ≤ 1073741824) (b3 : 0 ≤ T.o) (b4 : T.o ≤ 1073741824) (d1 : 0 ≤ T.d) (d2 : T.d ≤ 1073741824) (k1 : 0 ≤ T.c) (k2 : T.c ≤ 1073741824) (l1 : 0 ≤ T.t) (l2 : T.t ≤ 2147483648) (n0 : 0 ≤ now) (n1 : now ≤ 1073741823) (x0 : 1 ≤ x.f0) (x0' : x.f0 ≤ 1048576) (x1 : 0 ≤ x.f1) (x1' : x.f1 ≤ 1048576) (x2 : 0 ≤ x.f2) (x2' : x.f2 ≤ 1073741824) (x3 : 0 ≤ x.f3) (x3' : x.f3 ≤ 1073741824) (c1' : decide (0 < x.f1) = true) (y0 : Int) (hy0 : y0 = x.f0 - 1) (e0 : (y0 == 0) = false) (y1 : Int) (hy1 : y1 = x.f1 - 1) (e1 : (y1 == 0) = true) (s1 : decide (0 < x.f3) = true) (ov : Int) (hov : ov = now + 1 - x.f2 - x.f3) (s2 : decide (0 < ov) = true) :
    Calls Tryd.prog 17 #[T.v v, .int .i64 now] w fun e w' => ∃ v', e = .returned (.tuple #[Tk.v ⟨T.p, r, T.g + 1, T.o + 1, T.l, T.d, T.c + 1, T.t + 1⟩ v', .int .i64 2, .int .i64 ov, .int .i64 0]) ∧ TR w' v' (Tk.js ⟨T.p, r, T.g + 1, T.o + 1, T.l, T.d, T.c + 1, T.t + 1⟩) ∧ Below w.heap.size w w' := by
  obtain ⟨n, hn0⟩ : ∃ n, n = T.js.length := ⟨_, rfl⟩
  have hnr : n = r.length + 1 := by rw [hn0, hxr]; rfl
  have hn8 : n ≤ 8 := by rw [hn0]; exact Tk.ok_len hk
  obtain ⟨A, c, rfl, -, -⟩ := id h
  rw [← hn0] at h ⊢
  have HN0 := Lib.hid hn0
  have HNR := Lib.hid hnr
  have HJ := Lib.hid hj
  have HXR := Lib.hid hxr
  have HY0 := Lib.hid hy0
  have HY1 := Lib.hid hy1
  have HOV := Lib.hid hov
  clear hov
  clear hn0 hnr hj hxr hy0 hy1
  obtain ⟨W0, hW0⟩ : ∃ y, y = (w.alloc (.cells #[.int .i64 T.p, .slice A n c, .int .i64 T.g, .int .i64 T.o, .int .i64 T.l, .int .i64 T.d, .int .i64 T.c, .int .i64 T.t] 26)).alloc (.cells #[.int .i64 0, .slice none 0 0, .int .i64 0, .int .i64 0, .int .i64 0, .int .i64 0, .int .i64 0, .int .i64 0] 26) := ⟨_, rfl⟩
  have hx : BX w.heap.size w W0 [T.cs (.slice A n c), zT.cs nilS] := by rw [hW0]; exact BX.new w [T.cs (.slice A n c), zT.cs nilS]
  have HX := Lib.hid hx
  have HW0 := Lib.hid hW0
  have HR := Lib.hid h
  have HK := Lib.hid hk
  clear h hx hW0 hk
  go_enter Tryd.func17, Tryd.ntmps17
  go_wp2_with fail
  rw [← HW0.out]
  generalize hbw : w.heap.size = bw at *
  refine (rvalid_yes T (.slice A n c) W0 (HR.out.below (by rw [hbw]; exact HX.out.be)) HK.out).mono ?_
  rintro e w1 ⟨rfl, hb⟩
  have HX1 := Lib.hid (HX.out.call hb)
  clear hb HX
  obtain ⟨t0, t1, t2, t3, t4, t5, t6, t7⟩ := HX1.out.t8 (T := T) (b := bw) 0 rfl rfl
  go_wp2_with fail
  refine (rready_c T (.slice A n c) true w1 (HR.out.below (by rw [hbw]; exact HX1.out.be)) HJ.out).mono ?_
  rintro e w3 ⟨rfl, hb⟩
  have HX3 := Lib.hid (HX1.out.call hb)
  clear hb HX1 t0 t1 t2 t3 t4 t5 t6 t7
  obtain ⟨t0, t1, t2, t3, t4, t5, t6, t7⟩ := HX3.out.t8 (T := T) (b := bw) 0 rfl rfl
  go_wp2_with fail
  refine (twin_c T (.slice A n c) w3 (HR.out.below (by rw [hbw]; exact HX3.out.be)) (by have := HN0.out; omega)).mono ?_
  rintro e w5 ⟨v5, rfl, hR, hb⟩
  have HX5 := Lib.hid (HX3.out.call hb)
  have hs3 := HX3.out.size (by simp)
  obtain ⟨g, c5, hv5, hg5, hgl, -⟩ := Kd.R_form hR (by have := HN0.out; have := HNR.out; omega)
  rw [← HN0.out] at hv5
  subst hv5
  have hR5 : kJ.R 28 w5 (bw + 2) (fun _ => True) (.slice (some ⟨g, 0, none⟩) n c5) (x :: r) := by rw [← HXR.out]; exact Kd.R_lower hR hs3
  have hgb : bw + 2 ≤ g := Nat.le_trans hs3 hg5
  obtain ⟨⟨y0', y1', y2', y3'⟩, ⟨z0, z1, z2, z3⟩⟩ := R_cells0 hR5
  obtain ⟨u0, u1, u2, u3, u4, u5, u6, u7⟩ := HX5.out.f8 (b := bw) 0 rfl rfl
  obtain ⟨s0, s1', s2', s3, s4, s5, s6, s7⟩ := HX5.out.t8 (T := T) (v := .slice A n c) (b := bw) 0 rfl rfl
  have HR5 := Lib.hid hR5
  have hgw : g < w5.heap.size := hgl
  have hbw5 : bw < w5.heap.size := HX5.out.lt (i := 0) (by simp)
  have hnp : 0 < n := by have := HNR.out; omega
  have q0 : x.f0 - 1 = y0 := HY0.out.symm
  have q1 : x.f1 - 1 = y1 := HY1.out.symm
  clear hb hR hR5 hs3 hg5 hgl HX3 t0 t1 t2 t3 t4 t5 t6 t7
  go_upto_region 18 with (fail)
  obtain ⟨W6, hW6⟩ : ∃ y, y = ((((((((w5.setCell ⟨bw, 0, none⟩ (.int .i64 T.p)).setCell ⟨bw, 1, none⟩ (.slice (some ⟨g, 0, none⟩) n c5)).setCell ⟨bw, 2, none⟩ (.int .i64 T.g)).setCell ⟨bw, 3, none⟩ (.int .i64 T.o)).setCell ⟨bw, 4, none⟩ (.int .i64 T.l)).setCell ⟨bw, 5, none⟩ (.int .i64 T.d)).setCell ⟨bw, 6, none⟩ (.int .i64 T.c)).setCell ⟨bw, 7, none⟩ (.int .i64 T.t)) := ⟨_, rfl⟩
  rw [← hW6]
  have h6 : BX bw w W6 [T.cs (.slice (some ⟨g, 0, none⟩) n c5), zT.cs nilS] := by
    rw [hW6]
    exact HX5.out.set8 0 rfl (t := 26) rfl _ _ _ _ _ _ _ _
  have r6 : kJ.R 28 W6 (bw + 2) (fun _ => True) (.slice (some ⟨g, 0, none⟩) n c5) (x :: r) := by
    refine Kd.R_mono (Kd.R_step (Kd.R_bound HR5.out) (fun k hk hlt => ?_)) (fun _ _ => trivial)
    have hk' : bw + 2 ≤ k := hk.2.1
    rw [hW6]
    exact heap_set8 (by omega) _ _ _ _ _ _ _ _
  have hz6 : w5.heap.size = W6.heap.size := by rw [hW6]; simp
  clear hW6
  obtain ⟨jb, hjb⟩ : ∃ b, b = w5.heap.size := ⟨_, rfl⟩
  rw [← hjb]
  rw [hz6] at hjb hgw hbw5
  obtain ⟨W7, hW7⟩ : ∃ y, y = ((((((W6.setCell ⟨bw, 2, none⟩ (.int .i64 (T.g + 1))).setCell ⟨bw, 3, none⟩ (.int .i64 (T.o + 1))).setCell ⟨g, 0, none⟩ (.int .i64 y0)).setCell ⟨g, 1, none⟩ (.int .i64 y1)).setCell ⟨g, 2, none⟩ (.int .i64 x.f2)).setCell ⟨g, 3, none⟩ (.int .i64 x.f3)).alloc (.cells #[.int .i64 y0, .int .i64 y1, .int .i64 x.f2, .int .i64 x.f3] 28) := ⟨_, rfl⟩
  rw [← hW7]
  have h7 : BX bw w W7 [Tk.cs ⟨T.p, T.js, T.g + 1, T.o + 1, T.l, T.d, T.c, T.t⟩ (.slice (some ⟨g, 0, none⟩) n c5), zT.cs nilS] := by
    rw [hW7]
    have k1 := (h6.set 0 2 (.int .i64 (T.g + 1)) (c := T.cs (.slice (some ⟨g, 0, none⟩) n c5)) rfl).set 0 3 (.int .i64 (T.o + 1)) rfl
    have k2 := k1.chg (S := fun k => k = g) (((((Chg.refl (fun k => k = g) _).setCell ⟨g, 0, none⟩ (.int .i64 y0) rfl).setCell ⟨g, 1, none⟩ (.int .i64 y1) rfl).setCell ⟨g, 2, none⟩ (.int .i64 x.f2) rfl).setCell ⟨g, 3, none⟩ (.int .i64 x.f3) rfl) (fun k e => by have e' : k = g := e; rw [e']; exact hgb)
    exact k2.alloc _
  have r7 : kJ.R 28 W7 (bw + 2) (fun _ => True) (.slice (some ⟨g, 0, none⟩) n c5) ((⟨y0, y1, x.f2, x.f3⟩ : Jb) :: r) := by
    rw [hW7]
    have k1 : kJ.R 28 ((W6.setCell ⟨bw, 2, none⟩ (.int .i64 (T.g + 1))).setCell ⟨bw, 3, none⟩ (.int .i64 (T.o + 1))) (bw + 2) (fun _ => True) (.slice (some ⟨g, 0, none⟩) n c5) (x :: r) := by
      refine Kd.R_mono (Kd.R_step (Kd.R_bound r6) (fun k hk hlt => ?_)) (fun _ _ => trivial)
      have hk' : bw + 2 ≤ k := hk.2.1
      have m1 : k ≠ bw := by omega
      rw [Below.heap_setCell _ _ _ _ m1, Below.heap_setCell _ _ _ _ m1]
    have k2 := R_set0 (x' := (⟨y0, y1, x.f2, x.f3⟩ : Jb)) k1
    exact Kd.R_alloc k2 _
  have j7 : W7.heap[jb]? = some (.cells (jcs (⟨y0, y1, x.f2, x.f3⟩ : Jb)).1 28 (0, 0)) := by
    have := alloc_new ((((((W6.setCell ⟨bw, 2, none⟩ (.int .i64 (T.g + 1))).setCell ⟨bw, 3, none⟩ (.int .i64 (T.o + 1))).setCell ⟨g, 0, none⟩ (.int .i64 y0)).setCell ⟨g, 1, none⟩ (.int .i64 y1)).setCell ⟨g, 2, none⟩ (.int .i64 x.f2)).setCell ⟨g, 3, none⟩ (.int .i64 x.f3)) (.cells #[.int .i64 y0, .int .i64 y1, .int .i64 x.f2, .int .i64 x.f3] 28)
    rw [← hW7] at this
    rw [hjb]
    simpa using this
  have hjw : jb ≠ bw := by omega
  have hjw2 : jb ≠ bw + 1 := by have := h6.size (by simp); simp at this; omega
  obtain ⟨j0, j1, j2, j3⟩ := box_cells (x := (⟨y0, y1, x.f2, x.f3⟩ : Jb)) j7
  dsimp only at j0 j1 j2 j3
  obtain ⟨t0, t1, t2, t3, t4, t5, t6, t7⟩ := h7.t8 (T := ⟨T.p, T.js, T.g + 1, T.o + 1, T.l, T.d, T.c, T.t⟩) (b := bw) 0 rfl rfl
  clear u0 u1 u2 u3 u4 u5 u6 u7 s0 s1' s2' s3 s4 s5 s6 s7 y0' y1' y2' y3' z0 z1 z2 z3 q0 q1
  obtain ⟨u0, u1, u2, u3, u4, u5, u6, u7⟩ := h7.f8 (b := bw) 0 rfl rfl
  obtain ⟨r0, r1, r2, r3, r4, r5, r6', r7'⟩ := h7.t8 (T := zT) (b := bw + 1) 1 rfl rfl
  obtain ⟨f0, f1, f2, f3, f4, f5, f6, f7⟩ := h7.f8 (b := bw + 1) 1 rfl rfl
  have HX7 := Lib.hid h7
  have HR7 := Lib.hid r7
  have HFIN : Hid (∀ W', Chg (fun k => k = bw ∨ k = bw + 1) W7 W' → kJ.R 28 W' (bw + 2) (fun _ => True) (.slice (some ⟨g, 0, none⟩) n c5) ((⟨y0, y1, x.f2, x.f3⟩ : Jb) :: r) ∧ Below bw w W') := Lib.hid (fun W' hc => ⟨Kd.R_mono (Kd.R_step (Kd.R_bound r7) (fun k hk hlt => hc.block k hlt (by have hk' : bw + 2 ≤ k := hk.2.1; omega))) (fun _ _ => trivial), h7.be.trans (hc.below (Nat.le_trans h7.le h7.be.size) (fun k hk => by omega))⟩)
  clear hW7 h7 r7 j7 h6 r6 hz6 hjb hgw hbw5
  have sv : now + 1 - x.f2 - x.f3 = ov := HOV.out.symm
  have sp : 0 < ov := of_decide_eq_true s2
  by_cases hc1 : c5 = 1
  · subst hc1
    obtain rfl : n = 1 := by have := (Kd.R_reads' HR7.out).2.1; omega
    go_wp2
    refine bodyPost_ret (v := .tuple #[Tk.v ⟨T.p, r, T.g + 1, T.o + 1, T.l, T.d, T.c + 1, T.t + 1⟩ (.slice (some ⟨g, 0, none⟩) 0 0), .int .i64 2, .int .i64 ov, .int .i64 0]) (by simp [results, Tryd.results17, go_sem, r0, r1, r2, r3, r4, r5, r6', r7']) rfl ⟨_, rfl, ?_, ?_⟩
    · have hr : r = [] := by have := HNR.out; exact List.length_eq_zero_iff.1 (by omega)
      show TR _ _ r
      rw [hr]
      exact ⟨some ⟨g, 0, none⟩, 0, rfl, Nat.le_refl _, ⟨rfl, by simp, fun h => absurd h (Nat.lt_irrefl 0)⟩⟩
    · try rw [hbw]
      refine (HFIN.out _ ?_).2
      repeat (first | (with_reducible exact Chg.refl _ _) | (with_reducible refine Chg.setCell ?_ _ _ (by first | exact Or.inl rfl | exact Or.inr rfl)))
  · have hc2 : ¬ 1 = c5 := fun h => hc1 h.symm
    have hc3 : 1 ≤ c5 := by have := (Kd.R_reads' HR7.out).2.1; omega
    go_wp2
    refine bodyPost_ret (v := .tuple #[Tk.v ⟨T.p, r, T.g + 1, T.o + 1, T.l, T.d, T.c + 1, T.t + 1⟩ (.slice (some ⟨g, 4, none⟩) (n - 1) (c5 - 1)), .int .i64 2, .int .i64 ov, .int .i64 0]) (by simp [results, Tryd.results17, go_sem, r0, r1, r2, r3, r4, r5, r6', r7']) rfl ⟨_, rfl, ?_, ?_⟩
    · refine TR_drop1 (HFIN.out _ ?_).1 hc1 HNR.out
      repeat (first | (with_reducible exact Chg.refl _ _) | (with_reducible refine Chg.setCell ?_ _ _ (by first | exact Or.inl rfl | exact Or.inr rfl)))
    · try rw [hbw]
      refine (HFIN.out _ ?_).2
      repeat (first | (with_reducible exact Chg.refl _ _) | (with_reducible refine Chg.setCell ?_ _ _ (by first | exact Or.inl rfl | exact Or.inr rfl)))

end Go.Proofs.YtkfjlkpickeobaaDoor
