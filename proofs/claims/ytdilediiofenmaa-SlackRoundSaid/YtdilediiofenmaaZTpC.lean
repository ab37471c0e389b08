/- Of the text TpC only what this claim needs (shake.py, this repo's). -/
import Derived.Test.YtdilediiofenmaaZTpB
import Derived.Test.YtdilediiofenmaaZPSlackRunsx16
set_option linter.unusedVariables false
set_option linter.unusedSimpArgs false
namespace Go.Proofs.Ytdilediiofenmaa
open Go.RowKit
open Go.Proofs.YtdilediiofenmaaW.PrintWords (Kd Drawn0 Kept rd rdOf)
open Go.Proofs.Ytdilediiofenmaa.PSlackRuns
set_option maxRecDepth 100000

theorem tready_c (T : Tk) (v : Value) (r : Bool) (w : World) (h : TR w v T.js) (hr : decide (0 < T.js.length) = r) : Calls Try.prog 49 #[T.v v] w fun e w' => e = .returned (.bool r) ∧ Below w.heap.size w w' := by
  obtain ⟨A, c, rfl, h1, h2⟩ := h
  refine (task_Ready.calls T.p A c T.js T.g T.o T.l T.d T.c T.t r w h2 h1 ?_).mono (fun e w' h => h)
  unfold task_Ready.f
  rw [← hr]
  simp
set_option maxHeartbeats 4000000 in
theorem trun_state (T : Tk) (v : Value) (now : Int) (w : World) (h : TR w v T.js) (hl : T.js.length ≤ 9223372036854775800) (hk : T.okB = false) :
    Calls Try.prog 35 #[T.v v, .int .i64 now] w fun e w' => e = .returned (.tuple #[zT.v nilS, .int .i64 0, .int .i64 0, .iface 82 (.int .i64 270)]) ∧ Below w.heap.size w w' := by
  obtain ⟨W0, hW0⟩ : ∃ y, y = ((w.alloc (.cells #[.int .i64 T.p, v, .int .i64 T.g, .int .i64 T.o, .int .i64 T.l, .int .i64 T.d, .int .i64 T.c, .int .i64 T.t] 56)).alloc (.cells #[.int .i64 0, .slice none 0 0, .int .i64 0, .int .i64 0, .int .i64 0, .int .i64 0, .int .i64 0, .int .i64 0] 56)).alloc (.cells #[.int .i64 0, .slice none 0 0, .int .i64 0, .int .i64 0, .int .i64 0, .int .i64 0, .int .i64 0, .int .i64 0] 56) := ⟨_, rfl⟩
  have hx : BX w.heap.size w W0 [T.cs v, zT.cs nilS, zT.cs nilS] := by rw [hW0]; exact BX.new w [T.cs v, zT.cs nilS, zT.cs nilS]
  have HX := Lib.hid hx
  have HW0 := Lib.hid hW0
  have HR := Lib.hid h
  have HK := Lib.hid hk
  clear h hx hW0 hk
  go_enter Try.func35, Try.ntmps35
  go_wp2_with fail
  rw [← HW0.out]
  generalize hbw : w.heap.size = bw at *
  refine (tvalid_no T v W0 (HR.out.below (by rw [hbw]; exact HX.out.be)) hl HK.out).mono ?_
  rintro e w1 ⟨rfl, hb⟩
  have HX1 := Lib.hid (HX.out.call hb)
  clear hb HX
  obtain ⟨z0, z1, z2, z3, z4, z5, z6, z7⟩ := HX1.out.t8 (T := zT) (b := bw + 2) 2 rfl rfl
  obtain ⟨r0, r1, r2, r3, r4, r5, r6, r7⟩ := HX1.out.t8 (T := zT) (b := bw + 1) 1 rfl rfl
  obtain ⟨f0, f1, f2, f3, f4, f5, f6, f7⟩ := HX1.out.f8 (b := bw + 1) 1 rfl rfl
  go_wp2
  refine bodyPost_ret (v := .tuple #[zT.v nilS, .int .i64 0, .int .i64 0, .iface 82 (.int .i64 270)]) (by simp [results, Try.results35, go_sem, r0, r1, r2, r3, r4, r5, r6, r7]) rfl ⟨rfl, ?_⟩
  rw [hbw]
  exact below_set8 HX1.out.be (by omega) _ _ _ _ _ _ _ _
set_option maxHeartbeats 4000000 in
theorem trun_arg (T : Tk) (v : Value) (now : Int) (w : World) (h : TR w v T.js) (hk : T.okB = true) (hn : decide (0 ≤ now ∧ now ≤ 1073741823) = false) :
    Calls Try.prog 35 #[T.v v, .int .i64 now] w fun e w' => e = .returned (.tuple #[zT.v nilS, .int .i64 0, .int .i64 0, .iface 82 (.int .i64 1)]) ∧ Below w.heap.size w w' := by
  have HN := Lib.hid hn
  clear hn
  obtain ⟨W0, hW0⟩ : ∃ y, y = ((w.alloc (.cells #[.int .i64 T.p, v, .int .i64 T.g, .int .i64 T.o, .int .i64 T.l, .int .i64 T.d, .int .i64 T.c, .int .i64 T.t] 56)).alloc (.cells #[.int .i64 0, .slice none 0 0, .int .i64 0, .int .i64 0, .int .i64 0, .int .i64 0, .int .i64 0, .int .i64 0] 56)).alloc (.cells #[.int .i64 0, .slice none 0 0, .int .i64 0, .int .i64 0, .int .i64 0, .int .i64 0, .int .i64 0, .int .i64 0] 56) := ⟨_, rfl⟩
  have hx : BX w.heap.size w W0 [T.cs v, zT.cs nilS, zT.cs nilS] := by rw [hW0]; exact BX.new w [T.cs v, zT.cs nilS, zT.cs nilS]
  have HX := Lib.hid hx
  have HW0 := Lib.hid hW0
  have HR := Lib.hid h
  have HK := Lib.hid hk
  clear h hx hW0 hk
  go_enter Try.func35, Try.ntmps35
  go_wp2_with fail
  rw [← HW0.out]
  generalize hbw : w.heap.size = bw at *
  refine (tvalid_yes T v W0 (HR.out.below (by rw [hbw]; exact HX.out.be)) HK.out).mono ?_
  rintro e w1 ⟨rfl, hb⟩
  have HX1 := Lib.hid (HX.out.call hb)
  clear hb HX
  go_wp2_with fail
  refine (is_c now 0 1073741823 false HN.out w1).mono ?_
  rintro e w2 ⟨rfl, hb⟩
  have HX2 := Lib.hid (HX1.out.call hb)
  clear hb HX1
  obtain ⟨z0, z1, z2, z3, z4, z5, z6, z7⟩ := HX2.out.t8 (T := zT) (b := bw + 2) 2 rfl rfl
  obtain ⟨r0, r1, r2, r3, r4, r5, r6, r7⟩ := HX2.out.t8 (T := zT) (b := bw + 1) 1 rfl rfl
  obtain ⟨f0, f1, f2, f3, f4, f5, f6, f7⟩ := HX2.out.f8 (b := bw + 1) 1 rfl rfl
  go_wp2
  refine bodyPost_ret (v := .tuple #[zT.v nilS, .int .i64 0, .int .i64 0, .iface 82 (.int .i64 1)]) (by simp [results, Try.results35, go_sem, r0, r1, r2, r3, r4, r5, r6, r7]) rfl ⟨rfl, ?_⟩
  rw [hbw]
  exact below_set8 HX2.out.be (by omega) _ _ _ _ _ _ _ _
set_option maxHeartbeats 4000000 in
theorem trun_none (T : Tk) (v : Value) (now : Int) (w : World) (h : TR w v T.js) (hk : T.okB = true) (hn : decide (0 ≤ now ∧ now ≤ 1073741823) = true) (hj : decide (0 < T.js.length) = false) :
    Calls Try.prog 35 #[T.v v, .int .i64 now] w fun e w' => e = .returned (.tuple #[zT.v nilS, .int .i64 0, .int .i64 0, .iface 82 (.int .i64 50)]) ∧ Below w.heap.size w w' := by
  have HN := Lib.hid hn
  have HJ := Lib.hid hj
  clear hn hj
  obtain ⟨W0, hW0⟩ : ∃ y, y = ((w.alloc (.cells #[.int .i64 T.p, v, .int .i64 T.g, .int .i64 T.o, .int .i64 T.l, .int .i64 T.d, .int .i64 T.c, .int .i64 T.t] 56)).alloc (.cells #[.int .i64 0, .slice none 0 0, .int .i64 0, .int .i64 0, .int .i64 0, .int .i64 0, .int .i64 0, .int .i64 0] 56)).alloc (.cells #[.int .i64 0, .slice none 0 0, .int .i64 0, .int .i64 0, .int .i64 0, .int .i64 0, .int .i64 0, .int .i64 0] 56) := ⟨_, rfl⟩
  have hx : BX w.heap.size w W0 [T.cs v, zT.cs nilS, zT.cs nilS] := by rw [hW0]; exact BX.new w [T.cs v, zT.cs nilS, zT.cs nilS]
  have HX := Lib.hid hx
  have HW0 := Lib.hid hW0
  have HR := Lib.hid h
  have HK := Lib.hid hk
  clear h hx hW0 hk
  go_enter Try.func35, Try.ntmps35
  go_wp2_with fail
  rw [← HW0.out]
  generalize hbw : w.heap.size = bw at *
  refine (tvalid_yes T v W0 (HR.out.below (by rw [hbw]; exact HX.out.be)) HK.out).mono ?_
  rintro e w1 ⟨rfl, hb⟩
  have HX1 := Lib.hid (HX.out.call hb)
  clear hb HX
  go_wp2_with fail
  refine (is_c now 0 1073741823 true HN.out w1).mono ?_
  rintro e w2 ⟨rfl, hb⟩
  have HX2 := Lib.hid (HX1.out.call hb)
  clear hb HX1
  obtain ⟨t0, t1, t2, t3, t4, t5, t6, t7⟩ := HX2.out.t8 (T := T) (b := bw) 0 rfl rfl
  go_wp2_with fail
  refine (tready_c T v false w2 (HR.out.below (by rw [hbw]; exact HX2.out.be)) HJ.out).mono ?_
  rintro e w3 ⟨rfl, hb⟩
  have HX3 := Lib.hid (HX2.out.call hb)
  clear hb HX2 t0 t1 t2 t3 t4 t5 t6 t7
  obtain ⟨z0, z1, z2, z3, z4, z5, z6, z7⟩ := HX3.out.t8 (T := zT) (b := bw + 2) 2 rfl rfl
  obtain ⟨r0, r1, r2, r3, r4, r5, r6, r7⟩ := HX3.out.t8 (T := zT) (b := bw + 1) 1 rfl rfl
  obtain ⟨f0, f1, f2, f3, f4, f5, f6, f7⟩ := HX3.out.f8 (b := bw + 1) 1 rfl rfl
  go_wp2
  refine bodyPost_ret (v := .tuple #[zT.v nilS, .int .i64 0, .int .i64 0, .iface 82 (.int .i64 50)]) (by simp [results, Try.results35, go_sem, r0, r1, r2, r3, r4, r5, r6, r7]) rfl ⟨rfl, ?_⟩
  rw [hbw]
  exact below_set8 HX3.out.be (by omega) _ _ _ _ _ _ _ _
set_option maxHeartbeats 4000000 in
theorem trun_time (T : Tk) (v : Value) (now : Int) (w : World) (h : TR w v T.js) (hk : T.okB = true) (hn : decide (0 ≤ now ∧ now ≤ 1073741823) = true) (hj : decide (0 < T.js.length) = true) (hg : (T.g == 1073741824) = true) :
    Calls Try.prog 35 #[T.v v, .int .i64 now] w fun e w' => e = .returned (.tuple #[zT.v nilS, .int .i64 0, .int .i64 0, .iface 82 (.int .i64 60)]) ∧ Below w.heap.size w w' := by
  have HN := Lib.hid hn
  have HJ := Lib.hid hj
  clear hn hj
  obtain ⟨W0, hW0⟩ : ∃ y, y = ((w.alloc (.cells #[.int .i64 T.p, v, .int .i64 T.g, .int .i64 T.o, .int .i64 T.l, .int .i64 T.d, .int .i64 T.c, .int .i64 T.t] 56)).alloc (.cells #[.int .i64 0, .slice none 0 0, .int .i64 0, .int .i64 0, .int .i64 0, .int .i64 0, .int .i64 0, .int .i64 0] 56)).alloc (.cells #[.int .i64 0, .slice none 0 0, .int .i64 0, .int .i64 0, .int .i64 0, .int .i64 0, .int .i64 0, .int .i64 0] 56) := ⟨_, rfl⟩
  have hx : BX w.heap.size w W0 [T.cs v, zT.cs nilS, zT.cs nilS] := by rw [hW0]; exact BX.new w [T.cs v, zT.cs nilS, zT.cs nilS]
  have HX := Lib.hid hx
  have HW0 := Lib.hid hW0
  have HR := Lib.hid h
  have HK := Lib.hid hk
  clear h hx hW0 hk
  go_enter Try.func35, Try.ntmps35
  go_wp2_with fail
  rw [← HW0.out]
  generalize hbw : w.heap.size = bw at *
  refine (tvalid_yes T v W0 (HR.out.below (by rw [hbw]; exact HX.out.be)) HK.out).mono ?_
  rintro e w1 ⟨rfl, hb⟩
  have HX1 := Lib.hid (HX.out.call hb)
  clear hb HX
  go_wp2_with fail
  refine (is_c now 0 1073741823 true HN.out w1).mono ?_
  rintro e w2 ⟨rfl, hb⟩
  have HX2 := Lib.hid (HX1.out.call hb)
  clear hb HX1
  obtain ⟨t0, t1, t2, t3, t4, t5, t6, t7⟩ := HX2.out.t8 (T := T) (b := bw) 0 rfl rfl
  go_wp2_with fail
  refine (tready_c T v true w2 (HR.out.below (by rw [hbw]; exact HX2.out.be)) HJ.out).mono ?_
  rintro e w3 ⟨rfl, hb⟩
  have HX3 := Lib.hid (HX2.out.call hb)
  clear hb HX2 t0 t1 t2 t3 t4 t5 t6 t7
  obtain ⟨t0, t1, t2, t3, t4, t5, t6, t7⟩ := HX3.out.t8 (T := T) (b := bw) 0 rfl rfl
  obtain ⟨z0, z1, z2, z3, z4, z5, z6, z7⟩ := HX3.out.t8 (T := zT) (b := bw + 2) 2 rfl rfl
  obtain ⟨r0, r1, r2, r3, r4, r5, r6, r7⟩ := HX3.out.t8 (T := zT) (b := bw + 1) 1 rfl rfl
  obtain ⟨f0, f1, f2, f3, f4, f5, f6, f7⟩ := HX3.out.f8 (b := bw + 1) 1 rfl rfl
  go_wp2
  refine bodyPost_ret (v := .tuple #[zT.v nilS, .int .i64 0, .int .i64 0, .iface 82 (.int .i64 60)]) (by simp [results, Try.results35, go_sem, r0, r1, r2, r3, r4, r5, r6, r7]) rfl ⟨rfl, ?_⟩
  rw [hbw]
  exact below_set8 HX3.out.be (by omega) _ _ _ _ _ _ _ _

end Go.Proofs.Ytdilediiofenmaa

set_option linter.unusedVariables false
set_option linter.unusedSimpArgs false
namespace Go.Proofs.Ytdilediiofenmaa
open Go.RowKit
open Go.Proofs.YtdilediiofenmaaW.PrintWords (Kd Drawn0 Kept rd rdOf)
open Go.Proofs.Ytdilediiofenmaa.PSlackRuns
set_option maxRecDepth 100000

set_option maxHeartbeats 4000000 in
theorem trun_on0 (T : Tk) (v : Value) (now : Int) (w : World) (h : TR w v T.js) (x : Jb) (r : List Jb) (hxr : T.js = x :: r) (hk : T.okB = true) (hn : decide (0 ≤ now ∧ now ≤ 1073741823) = true) (hj : decide (0 < T.js.length) = true) (hg : (T.g == 1073741824) = false) (b1 : 0 ≤ T.g) (b2 : T.g ≤ 1073741824) (b3 : 0 ≤ T.o) (b4 : T.o ≤ 1073741824) (d1 : 0 ≤ T.d) (d2 : T.d ≤ 1073741824) (k1 : 0 ≤ T.c) (k2 : T.c ≤ 1073741824) (l1 : 0 ≤ T.t) (l2 : T.t ≤ 2147483648) (n0 : 0 ≤ now) (n1 : now ≤ 1073741823) (x0 : 1 ≤ x.f0) (x0' : x.f0 ≤ 1048576) (x1 : 0 ≤ x.f1) (x1' : x.f1 ≤ 1048576) (x2 : 0 ≤ x.f2) (x2' : x.f2 ≤ 1073741824) (x3 : 0 ≤ x.f3) (x3' : x.f3 ≤ 1073741824) (c1 : (x.f1 == 1) = false) (c1' : decide (0 < x.f1) = false) (y0 : Int) (hy0 : y0 = x.f0 - 1) (e0 : (y0 == 0) = false) :
    Calls Try.prog 35 #[T.v v, .int .i64 now] w fun e w' => ∃ v', e = .returned (.tuple #[Tk.v ⟨T.p, ⟨y0, x.f1, x.f2, x.f3⟩ :: r, T.g + 1, T.o + 1, T.l, T.d, T.c, T.t⟩ v', .int .i64 0, .int .i64 0, .nilIface]) ∧ kJ.R 32 w' w.heap.size (fun _ => True) v' (Tk.js ⟨T.p, ⟨y0, x.f1, x.f2, x.f3⟩ :: r, T.g + 1, T.o + 1, T.l, T.d, T.c, T.t⟩) ∧ Below w.heap.size w w' := by
  have HN := Lib.hid hn
  have HJ := Lib.hid hj
  have HXR := Lib.hid hxr
  have HY0 := Lib.hid hy0
  clear hn hj hxr hy0
  obtain ⟨W0, hW0⟩ : ∃ y, y = ((w.alloc (.cells #[.int .i64 T.p, v, .int .i64 T.g, .int .i64 T.o, .int .i64 T.l, .int .i64 T.d, .int .i64 T.c, .int .i64 T.t] 56)).alloc (.cells #[.int .i64 0, .slice none 0 0, .int .i64 0, .int .i64 0, .int .i64 0, .int .i64 0, .int .i64 0, .int .i64 0] 56)).alloc (.cells #[.int .i64 0, .slice none 0 0, .int .i64 0, .int .i64 0, .int .i64 0, .int .i64 0, .int .i64 0, .int .i64 0] 56) := ⟨_, rfl⟩
  have hx : BX w.heap.size w W0 [T.cs v, zT.cs nilS, zT.cs nilS] := by rw [hW0]; exact BX.new w [T.cs v, zT.cs nilS, zT.cs nilS]
  have HX := Lib.hid hx
  have HW0 := Lib.hid hW0
  have HR := Lib.hid h
  have HK := Lib.hid hk
  clear h hx hW0 hk
  go_enter Try.func35, Try.ntmps35
  go_wp2_with fail
  rw [← HW0.out]
  generalize hbw : w.heap.size = bw at *
  refine (tvalid_yes T v W0 (HR.out.below (by rw [hbw]; exact HX.out.be)) HK.out).mono ?_
  rintro e w1 ⟨rfl, hb⟩
  have HX1 := Lib.hid (HX.out.call hb)
  clear hb HX
  go_wp2_with fail
  refine (is_c now 0 1073741823 true HN.out w1).mono ?_
  rintro e w2 ⟨rfl, hb⟩
  have HX2 := Lib.hid (HX1.out.call hb)
  clear hb HX1
  obtain ⟨t0, t1, t2, t3, t4, t5, t6, t7⟩ := HX2.out.t8 (T := T) (b := bw) 0 rfl rfl
  go_wp2_with fail
  refine (tready_c T v true w2 (HR.out.below (by rw [hbw]; exact HX2.out.be)) HJ.out).mono ?_
  rintro e w3 ⟨rfl, hb⟩
  have HX3 := Lib.hid (HX2.out.call hb)
  clear hb HX2 t0 t1 t2 t3 t4 t5 t6 t7
  obtain ⟨t0, t1, t2, t3, t4, t5, t6, t7⟩ := HX3.out.t8 (T := T) (b := bw) 0 rfl rfl
  have hsz3 := HX3.out.size (by simp)
  go_wp2_with fail
  refine (queue_ok T v w3 (HR.out.below (by rw [hbw]; exact HX3.out.be)) (Tk.ok_len HK.out)).mono ?_
  rintro e w4 ⟨q, rfl, hQ⟩
  obtain ⟨S, hJ, hS, hb⟩ := hQ
  rw [HXR.out] at hJ
  obtain ⟨g, n, cap, rs, hq, hSq, hSg, hSl, hr0, hr1, hr2⟩ := hJ.ring
  have HX4 := Lib.hid (HX3.out.call hb)
  have hqb : bw + 3 ≤ q := Nat.le_trans hsz3 (hS q hSq)
  have hgb : bw + 3 ≤ g := Nat.le_trans hsz3 (hS g hSg)
  have HQ4 := Lib.hid hq
  have HR0 := Lib.hid hr0
  have HR1 := Lib.hid hr1
  have HR2 := Lib.hid hr2
  clear hb t0 t1 t2 t3 t4 t5 t6 t7 HX3 hJ hS hsz3 hSq hSg hSl hq hr0 hr1 hr2
  go_wp2_with fail
  refine (jhead_ok q g n cap 0 (r.length + 1) 8 rs x w4 HQ4.out (by omega) HR0.out).mono ?_
  rintro e w5 ⟨rfl, hb⟩
  have HX5 := Lib.hid (HX4.out.call hb)
  have HQ5 := Lib.hid (HQ4.out.below hb)
  have hq5 : q < w5.heap.size := HQ5.out.lt
  have hg5 : g < w5.heap.size := HQ5.out.ltg
  have hs5 := HX5.out.size (by simp)
  have hs5' : bw + 3 ≤ w5.heap.size := hs5
  obtain ⟨t0, t1, t2, t3, t4, t5, t6, t7⟩ := HX5.out.t8 (T := T) (b := bw) 0 rfl rfl
  obtain ⟨u0, u1, u2, u3, u4, u5, u6, u7⟩ := HX5.out.f8 (b := bw) 0 rfl rfl
  have hbw5 : bw < w5.heap.size := by omega
  clear hb HX4 HQ4 hs5
  go_wp2_with fail
  obtain ⟨W6, hW6⟩ : ∃ y, y = ((w5.setCell ⟨bw, 2, none⟩ (.int .i64 (T.g + 1))).setCell ⟨bw, 3, none⟩ (.int .i64 (T.o + 1))).alloc (.cells #[.int .i64 (x.f0 - 1), .int .i64 x.f1, .int .i64 x.f2, .int .i64 x.f3] 32) := ⟨_, rfl⟩
  rw [← hW6]
  obtain ⟨jb, hjb⟩ : ∃ b, b = w5.heap.size := ⟨_, rfl⟩
  rw [← hjb]
  have X6 : Chg (fun k => k = bw) w5 W6 := by rw [hW6]; exact (((Chg.refl (fun k => k = bw) w5).setCell _ _ rfl).setCell _ _ rfl).alloc _
  have HX6 : Hid (BX bw w W6 [Tk.cs ⟨T.p, T.js, T.g + 1, T.o + 1, T.l, T.d, T.c, T.t⟩ v, zT.cs nilS, zT.cs nilS]) := by
    rw [hW6]
    exact Lib.hid (((HX5.out.set 0 2 (.int .i64 (T.g + 1)) (c := T.cs v) rfl).set 0 3 (.int .i64 (T.o + 1)) rfl).alloc _)
  have hj6 : W6.heap[jb]? = some (.cells (jcs (⟨y0, x.f1, x.f2, x.f3⟩ : Jb)).1 32 (0, 0)) := by
    have := alloc_new ((w5.setCell ⟨bw, 2, none⟩ (.int .i64 (T.g + 1))).setCell ⟨bw, 3, none⟩ (.int .i64 (T.o + 1))) (.cells #[.int .i64 (x.f0 - 1), .int .i64 x.f1, .int .i64 x.f2, .int .i64 x.f3] 32)
    rw [← hW6] at this
    rw [hjb]
    rw [HY0.out]
    simpa using this
  have hqn : ¬ q = bw := by omega
  have hgn : ¬ g = bw := by omega
  have hq6 := HQ5.out.chg X6 hqn hgn
  have hjq : jb ≠ q := by omega
  have hjg : jb ≠ g := by omega
  have hjb3 : bw + 3 ≤ jb := by omega
  have HJ6 := Lib.hid hj6
  have HQ6 := Lib.hid hq6
  clear hW6 X6 hj6 hq6 HX5 HQ5 t0 t1 t2 t3 t4 t5 t6 t7 u0 u1 u2 u3 u4 u5 u6 u7 hq5 hg5 hs5' hjb hbw5
  rw [← HY0.out]
  refine (jput_ok q g n cap 0 (r.length + 1) 8 0 rs (⟨y0, x.f1, x.f2, x.f3⟩ : Jb) W6 HQ6.out (by omega)).mono ?_
  rintro e w7 ⟨rfl, hq7, hc7⟩
  rw [Nat.add_zero, Nat.zero_mod] at hq7
  have hx7 := HX6.out.chg hc7 (fun k s => s.elim (fun e => by rw [e]; exact hqb) (fun e => by rw [e]; exact hgb))
  have hj7 := hc7.heap HJ6.out (fun s => s.elim (fun e => hjq e) (fun e => hjg e))
  obtain ⟨j0, j1, j2, j3⟩ := box_cells (x := (⟨y0, x.f1, x.f2, x.f3⟩ : Jb)) hj7
  dsimp only at j0 j1 j2 j3
  have HX7 := Lib.hid hx7
  have HQ7 := Lib.hid hq7
  have HJ7 := Lib.hid hj7
  clear hc7 hq7 hx7 hj7 HX6 HQ6 HJ6
  have HL := Lib.hid (jlist_some q g n cap 0 (r.length + 1) 8 (rs.set 0 (⟨y0, x.f1, x.f2, x.f3⟩ : Jb)) w7 HQ7.out)
  rw [HR1.out] at HL
  go_wp2_with fail
  refine HL.out.mono ?_
  rintro e wZ ⟨v', rfl, hR, hb⟩
  obtain ⟨AZ, cZ, rfl⟩ := Kd.R_slice hR
  have hxZ := HX7.out.call hb
  have hR3 : kJ.R 32 wZ bw (fun k => bw + 3 ≤ k) (.slice AZ ((⟨y0, x.f1, x.f2, x.f3⟩ : Jb) :: r).length cZ) ((⟨y0, x.f1, x.f2, x.f3⟩ : Jb) :: r) := by
    have := Kd.R_lower hR (base' := bw + 3) (HX7.out.size (by simp))
    have k := Kd.R_mono (Kd.R_bound this) (ok' := fun k => bw + 3 ≤ k) (fun k hk => hk.2.1)
    exact Kd.R_lower k (by omega)
  have HRZ := Lib.hid hR3
  obtain ⟨t0, t1, t2, t3, t4, t5, t6, t7⟩ := hxZ.t8 (T := ⟨T.p, T.js, T.g + 1, T.o + 1, T.l, T.d, T.c, T.t⟩) (b := bw) 0 rfl rfl
  obtain ⟨u0, u1, u2, u3, u4, u5, u6, u7⟩ := hxZ.f8 (b := bw) 0 rfl rfl
  obtain ⟨r0, r1, r2, r3, r4, r5, r6, r7⟩ := hxZ.t8 (T := zT) (b := bw + 1) 1 rfl rfl
  obtain ⟨f0, f1, f2, f3, f4, f5, f6, f7⟩ := hxZ.f8 (b := bw + 1) 1 rfl rfl
  have HXZ := Lib.hid hxZ
  clear hb hR hR3 hxZ HL HX7
  go_wp2
  refine bodyPost_ret (v := .tuple #[Tk.v ⟨T.p, ⟨y0, x.f1, x.f2, x.f3⟩ :: r, T.g + 1, T.o + 1, T.l, T.d, T.c, T.t⟩ (.slice AZ ((⟨y0, x.f1, x.f2, x.f3⟩ : Jb) :: r).length cZ), .int .i64 0, .int .i64 0, .nilIface]) (by simp [results, Try.results35, go_sem, r0, r1, r2, r3, r4, r5, r6, r7]) rfl ⟨_, rfl, ?_, ?_⟩
  · rw [hbw]
    refine Kd.R_mono (Kd.R_step HRZ.out (fun k hk hlt => ?_)) (fun _ _ => trivial)
    have hk' : bw + 3 ≤ k := hk
    have m1 : k ≠ bw := by omega
    have m2 : k ≠ bw + 1 := by omega
    rw [Below.heap_setCell _ _ _ _ m2, Below.heap_setCell _ _ _ _ m2, Below.heap_setCell _ _ _ _ m2, Below.heap_setCell _ _ _ _ m2, Below.heap_setCell _ _ _ _ m2, Below.heap_setCell _ _ _ _ m2, Below.heap_setCell _ _ _ _ m2, Below.heap_setCell _ _ _ _ m2, Below.heap_setCell _ _ _ _ m1]
  · rw [hbw]
    exact below_set8 (HXZ.out.be.setCell (p := ⟨bw, 1, none⟩) (Nat.le_refl _) _) (by omega) _ _ _ _ _ _ _ _
set_option maxHeartbeats 4000000 in
theorem trun_on1 (T : Tk) (v : Value) (now : Int) (w : World) (h : TR w v T.js) (x : Jb) (r : List Jb) (hxr : T.js = x :: r) (hk : T.okB = true) (hn : decide (0 ≤ now ∧ now ≤ 1073741823) = true) (hj : decide (0 < T.js.length) = true) (hg : (T.g == 1073741824) = false) (b1 : 0 ≤ T.g) (b2 : T.g ≤ 1073741824) (b3 : 0 ≤ T.o) (b4 : T.o ≤ 1073741824) (d1 : 0 ≤ T.d) (d2 : T.d ≤ 1073741824) (k1 : 0 ≤ T.c) (k2 : T.c ≤ 1073741824) (l1 : 0 ≤ T.t) (l2 : T.t ≤ 2147483648) (n0 : 0 ≤ now) (n1 : now ≤ 1073741823) (x0 : 1 ≤ x.f0) (x0' : x.f0 ≤ 1048576) (x1 : 0 ≤ x.f1) (x1' : x.f1 ≤ 1048576) (x2 : 0 ≤ x.f2) (x2' : x.f2 ≤ 1073741824) (x3 : 0 ≤ x.f3) (x3' : x.f3 ≤ 1073741824) (c1 : (x.f1 == 1) = false) (c1' : decide (0 < x.f1) = true) (y0 : Int) (hy0 : y0 = x.f0 - 1) (e0 : (y0 == 0) = false) :
    Calls Try.prog 35 #[T.v v, .int .i64 now] w fun e w' => ∃ v', e = .returned (.tuple #[Tk.v ⟨T.p, ⟨y0, x.f1 - 1, x.f2, x.f3⟩ :: r, T.g + 1, T.o + 1, T.l, T.d, T.c, T.t⟩ v', .int .i64 0, .int .i64 0, .nilIface]) ∧ kJ.R 32 w' w.heap.size (fun _ => True) v' (Tk.js ⟨T.p, ⟨y0, x.f1 - 1, x.f2, x.f3⟩ :: r, T.g + 1, T.o + 1, T.l, T.d, T.c, T.t⟩) ∧ Below w.heap.size w w' := by
  have HN := Lib.hid hn
  have HJ := Lib.hid hj
  have HXR := Lib.hid hxr
  have HY0 := Lib.hid hy0
  clear hn hj hxr hy0
  obtain ⟨W0, hW0⟩ : ∃ y, y = ((w.alloc (.cells #[.int .i64 T.p, v, .int .i64 T.g, .int .i64 T.o, .int .i64 T.l, .int .i64 T.d, .int .i64 T.c, .int .i64 T.t] 56)).alloc (.cells #[.int .i64 0, .slice none 0 0, .int .i64 0, .int .i64 0, .int .i64 0, .int .i64 0, .int .i64 0, .int .i64 0] 56)).alloc (.cells #[.int .i64 0, .slice none 0 0, .int .i64 0, .int .i64 0, .int .i64 0, .int .i64 0, .int .i64 0, .int .i64 0] 56) := ⟨_, rfl⟩
  have hx : BX w.heap.size w W0 [T.cs v, zT.cs nilS, zT.cs nilS] := by rw [hW0]; exact BX.new w [T.cs v, zT.cs nilS, zT.cs nilS]
  have HX := Lib.hid hx
  have HW0 := Lib.hid hW0
  have HR := Lib.hid h
  have HK := Lib.hid hk
  clear h hx hW0 hk
  go_enter Try.func35, Try.ntmps35
  go_wp2_with fail
  rw [← HW0.out]
  generalize hbw : w.heap.size = bw at *
  refine (tvalid_yes T v W0 (HR.out.below (by rw [hbw]; exact HX.out.be)) HK.out).mono ?_
  rintro e w1 ⟨rfl, hb⟩
  have HX1 := Lib.hid (HX.out.call hb)
  clear hb HX
  go_wp2_with fail
  refine (is_c now 0 1073741823 true HN.out w1).mono ?_
  rintro e w2 ⟨rfl, hb⟩
  have HX2 := Lib.hid (HX1.out.call hb)
  clear hb HX1
  obtain ⟨t0, t1, t2, t3, t4, t5, t6, t7⟩ := HX2.out.t8 (T := T) (b := bw) 0 rfl rfl
  go_wp2_with fail
  refine (tready_c T v true w2 (HR.out.below (by rw [hbw]; exact HX2.out.be)) HJ.out).mono ?_
  rintro e w3 ⟨rfl, hb⟩
  have HX3 := Lib.hid (HX2.out.call hb)
  clear hb HX2 t0 t1 t2 t3 t4 t5 t6 t7
  obtain ⟨t0, t1, t2, t3, t4, t5, t6, t7⟩ := HX3.out.t8 (T := T) (b := bw) 0 rfl rfl
  have hsz3 := HX3.out.size (by simp)
  go_wp2_with fail
  refine (queue_ok T v w3 (HR.out.below (by rw [hbw]; exact HX3.out.be)) (Tk.ok_len HK.out)).mono ?_
  rintro e w4 ⟨q, rfl, hQ⟩
  obtain ⟨S, hJ, hS, hb⟩ := hQ
  rw [HXR.out] at hJ
  obtain ⟨g, n, cap, rs, hq, hSq, hSg, hSl, hr0, hr1, hr2⟩ := hJ.ring
  have HX4 := Lib.hid (HX3.out.call hb)
  have hqb : bw + 3 ≤ q := Nat.le_trans hsz3 (hS q hSq)
  have hgb : bw + 3 ≤ g := Nat.le_trans hsz3 (hS g hSg)
  have HQ4 := Lib.hid hq
  have HR0 := Lib.hid hr0
  have HR1 := Lib.hid hr1
  have HR2 := Lib.hid hr2
  clear hb t0 t1 t2 t3 t4 t5 t6 t7 HX3 hJ hS hsz3 hSq hSg hSl hq hr0 hr1 hr2
  go_wp2_with fail
  refine (jhead_ok q g n cap 0 (r.length + 1) 8 rs x w4 HQ4.out (by omega) HR0.out).mono ?_
  rintro e w5 ⟨rfl, hb⟩
  have HX5 := Lib.hid (HX4.out.call hb)
  have HQ5 := Lib.hid (HQ4.out.below hb)
  have hq5 : q < w5.heap.size := HQ5.out.lt
  have hg5 : g < w5.heap.size := HQ5.out.ltg
  have hs5 := HX5.out.size (by simp)
  have hs5' : bw + 3 ≤ w5.heap.size := hs5
  obtain ⟨t0, t1, t2, t3, t4, t5, t6, t7⟩ := HX5.out.t8 (T := T) (b := bw) 0 rfl rfl
  obtain ⟨u0, u1, u2, u3, u4, u5, u6, u7⟩ := HX5.out.f8 (b := bw) 0 rfl rfl
  have hbw5 : bw < w5.heap.size := by omega
  clear hb HX4 HQ4 hs5
  go_wp2_with fail
  obtain ⟨W6, hW6⟩ : ∃ y, y = ((w5.setCell ⟨bw, 2, none⟩ (.int .i64 (T.g + 1))).setCell ⟨bw, 3, none⟩ (.int .i64 (T.o + 1))).alloc (.cells #[.int .i64 (x.f0 - 1), .int .i64 (x.f1 - 1), .int .i64 x.f2, .int .i64 x.f3] 32) := ⟨_, rfl⟩
  rw [← hW6]
  obtain ⟨jb, hjb⟩ : ∃ b, b = w5.heap.size := ⟨_, rfl⟩
  rw [← hjb]
  have X6 : Chg (fun k => k = bw) w5 W6 := by rw [hW6]; exact (((Chg.refl (fun k => k = bw) w5).setCell _ _ rfl).setCell _ _ rfl).alloc _
  have HX6 : Hid (BX bw w W6 [Tk.cs ⟨T.p, T.js, T.g + 1, T.o + 1, T.l, T.d, T.c, T.t⟩ v, zT.cs nilS, zT.cs nilS]) := by
    rw [hW6]
    exact Lib.hid (((HX5.out.set 0 2 (.int .i64 (T.g + 1)) (c := T.cs v) rfl).set 0 3 (.int .i64 (T.o + 1)) rfl).alloc _)
  have hj6 : W6.heap[jb]? = some (.cells (jcs (⟨y0, x.f1 - 1, x.f2, x.f3⟩ : Jb)).1 32 (0, 0)) := by
    have := alloc_new ((w5.setCell ⟨bw, 2, none⟩ (.int .i64 (T.g + 1))).setCell ⟨bw, 3, none⟩ (.int .i64 (T.o + 1))) (.cells #[.int .i64 (x.f0 - 1), .int .i64 (x.f1 - 1), .int .i64 x.f2, .int .i64 x.f3] 32)
    rw [← hW6] at this
    rw [hjb]
    rw [HY0.out]
    simpa using this
  have hqn : ¬ q = bw := by omega
  have hgn : ¬ g = bw := by omega
  have hq6 := HQ5.out.chg X6 hqn hgn
  have hjq : jb ≠ q := by omega
  have hjg : jb ≠ g := by omega
  have hjb3 : bw + 3 ≤ jb := by omega
  have HJ6 := Lib.hid hj6
  have HQ6 := Lib.hid hq6
  clear hW6 X6 hj6 hq6 HX5 HQ5 t0 t1 t2 t3 t4 t5 t6 t7 u0 u1 u2 u3 u4 u5 u6 u7 hq5 hg5 hs5' hjb hbw5
  rw [← HY0.out]
  refine (jput_ok q g n cap 0 (r.length + 1) 8 0 rs (⟨y0, x.f1 - 1, x.f2, x.f3⟩ : Jb) W6 HQ6.out (by omega)).mono ?_
  rintro e w7 ⟨rfl, hq7, hc7⟩
  rw [Nat.add_zero, Nat.zero_mod] at hq7
  have hx7 := HX6.out.chg hc7 (fun k s => s.elim (fun e => by rw [e]; exact hqb) (fun e => by rw [e]; exact hgb))
  have hj7 := hc7.heap HJ6.out (fun s => s.elim (fun e => hjq e) (fun e => hjg e))
  obtain ⟨j0, j1, j2, j3⟩ := box_cells (x := (⟨y0, x.f1 - 1, x.f2, x.f3⟩ : Jb)) hj7
  dsimp only at j0 j1 j2 j3
  have HX7 := Lib.hid hx7
  have HQ7 := Lib.hid hq7
  have HJ7 := Lib.hid hj7
  clear hc7 hq7 hx7 hj7 HX6 HQ6 HJ6
  have HL := Lib.hid (jlist_some q g n cap 0 (r.length + 1) 8 (rs.set 0 (⟨y0, x.f1 - 1, x.f2, x.f3⟩ : Jb)) w7 HQ7.out)
  rw [HR1.out] at HL
  go_wp2_with fail
  refine HL.out.mono ?_
  rintro e wZ ⟨v', rfl, hR, hb⟩
  obtain ⟨AZ, cZ, rfl⟩ := Kd.R_slice hR
  have hxZ := HX7.out.call hb
  have hR3 : kJ.R 32 wZ bw (fun k => bw + 3 ≤ k) (.slice AZ ((⟨y0, x.f1 - 1, x.f2, x.f3⟩ : Jb) :: r).length cZ) ((⟨y0, x.f1 - 1, x.f2, x.f3⟩ : Jb) :: r) := by
    have := Kd.R_lower hR (base' := bw + 3) (HX7.out.size (by simp))
    have k := Kd.R_mono (Kd.R_bound this) (ok' := fun k => bw + 3 ≤ k) (fun k hk => hk.2.1)
    exact Kd.R_lower k (by omega)
  have HRZ := Lib.hid hR3
  obtain ⟨t0, t1, t2, t3, t4, t5, t6, t7⟩ := hxZ.t8 (T := ⟨T.p, T.js, T.g + 1, T.o + 1, T.l, T.d, T.c, T.t⟩) (b := bw) 0 rfl rfl
  obtain ⟨u0, u1, u2, u3, u4, u5, u6, u7⟩ := hxZ.f8 (b := bw) 0 rfl rfl
  obtain ⟨r0, r1, r2, r3, r4, r5, r6, r7⟩ := hxZ.t8 (T := zT) (b := bw + 1) 1 rfl rfl
  obtain ⟨f0, f1, f2, f3, f4, f5, f6, f7⟩ := hxZ.f8 (b := bw + 1) 1 rfl rfl
  have HXZ := Lib.hid hxZ
  clear hb hR hR3 hxZ HL HX7
  go_wp2
  refine bodyPost_ret (v := .tuple #[Tk.v ⟨T.p, ⟨y0, x.f1 - 1, x.f2, x.f3⟩ :: r, T.g + 1, T.o + 1, T.l, T.d, T.c, T.t⟩ (.slice AZ ((⟨y0, x.f1 - 1, x.f2, x.f3⟩ : Jb) :: r).length cZ), .int .i64 0, .int .i64 0, .nilIface]) (by simp [results, Try.results35, go_sem, r0, r1, r2, r3, r4, r5, r6, r7]) rfl ⟨_, rfl, ?_, ?_⟩
  · rw [hbw]
    refine Kd.R_mono (Kd.R_step HRZ.out (fun k hk hlt => ?_)) (fun _ _ => trivial)
    have hk' : bw + 3 ≤ k := hk
    have m1 : k ≠ bw := by omega
    have m2 : k ≠ bw + 1 := by omega
    rw [Below.heap_setCell _ _ _ _ m2, Below.heap_setCell _ _ _ _ m2, Below.heap_setCell _ _ _ _ m2, Below.heap_setCell _ _ _ _ m2, Below.heap_setCell _ _ _ _ m2, Below.heap_setCell _ _ _ _ m2, Below.heap_setCell _ _ _ _ m2, Below.heap_setCell _ _ _ _ m2, Below.heap_setCell _ _ _ _ m1]
  · rw [hbw]
    exact below_set8 (HXZ.out.be.setCell (p := ⟨bw, 1, none⟩) (Nat.le_refl _) _) (by omega) _ _ _ _ _ _ _ _

end Go.Proofs.Ytdilediiofenmaa

set_option linter.unusedVariables false
set_option linter.unusedSimpArgs false
namespace Go.Proofs.Ytdilediiofenmaa
open Go.RowKit
open Go.Proofs.YtdilediiofenmaaW.PrintWords (Kd Drawn0 Kept rd rdOf)
open Go.Proofs.Ytdilediiofenmaa.PSlackRuns
set_option maxRecDepth 100000

set_option maxHeartbeats 4000000 in
theorem trun_d0n (T : Tk) (v : Value) (now : Int) (w : World) (h : TR w v T.js) (x : Jb) (r : List Jb) (hxr : T.js = x :: r) (hk : T.okB = true) (hn : decide (0 ≤ now ∧ now ≤ 1073741823) = true) (hj : decide (0 < T.js.length) = true) (hg : (T.g == 1073741824) = false) (b1 : 0 ≤ T.g) (b2 : T.g ≤ 1073741824) (b3 : 0 ≤ T.o) (b4 : T.o ≤ 1073741824) (d1 : 0 ≤ T.d) (d2 : T.d ≤ 1073741824) (k1 : 0 ≤ T.c) (k2 : T.c ≤ 1073741824) (l1 : 0 ≤ T.t) (l2 : T.t ≤ 2147483648) (n0 : 0 ≤ now) (n1 : now ≤ 1073741823) (x0 : 1 ≤ x.f0) (x0' : x.f0 ≤ 1048576) (x1 : 0 ≤ x.f1) (x1' : x.f1 ≤ 1048576) (x2 : 0 ≤ x.f2) (x2' : x.f2 ≤ 1073741824) (x3 : 0 ≤ x.f3) (x3' : x.f3 ≤ 1073741824) (c1 : (x.f1 == 1) = false) (c1' : decide (0 < x.f1) = false) (y0 : Int) (hy0 : y0 = x.f0 - 1) (e0 : (y0 == 0) = true) (s1 : decide (0 < x.f3) = false) :
    Calls Try.prog 35 #[T.v v, .int .i64 now] w fun e w' => ∃ v', e = .returned (.tuple #[Tk.v ⟨T.p, r, T.g + 1, T.o + 1, T.l, T.d + 1, T.c, T.t⟩ v', .int .i64 1, .int .i64 0, .nilIface]) ∧ kJ.R 32 w' w.heap.size (fun _ => True) v' (Tk.js ⟨T.p, r, T.g + 1, T.o + 1, T.l, T.d + 1, T.c, T.t⟩) ∧ Below w.heap.size w w' := by
  have HN := Lib.hid hn
  have HJ := Lib.hid hj
  have HXR := Lib.hid hxr
  have HY0 := Lib.hid hy0
  clear hn hj hxr hy0
  obtain ⟨W0, hW0⟩ : ∃ y, y = ((w.alloc (.cells #[.int .i64 T.p, v, .int .i64 T.g, .int .i64 T.o, .int .i64 T.l, .int .i64 T.d, .int .i64 T.c, .int .i64 T.t] 56)).alloc (.cells #[.int .i64 0, .slice none 0 0, .int .i64 0, .int .i64 0, .int .i64 0, .int .i64 0, .int .i64 0, .int .i64 0] 56)).alloc (.cells #[.int .i64 0, .slice none 0 0, .int .i64 0, .int .i64 0, .int .i64 0, .int .i64 0, .int .i64 0, .int .i64 0] 56) := ⟨_, rfl⟩
  have hx : BX w.heap.size w W0 [T.cs v, zT.cs nilS, zT.cs nilS] := by rw [hW0]; exact BX.new w [T.cs v, zT.cs nilS, zT.cs nilS]
  have HX := Lib.hid hx
  have HW0 := Lib.hid hW0
  have HR := Lib.hid h
  have HK := Lib.hid hk
  clear h hx hW0 hk
  go_enter Try.func35, Try.ntmps35
  go_wp2_with fail
  rw [← HW0.out]
  generalize hbw : w.heap.size = bw at *
  refine (tvalid_yes T v W0 (HR.out.below (by rw [hbw]; exact HX.out.be)) HK.out).mono ?_
  rintro e w1 ⟨rfl, hb⟩
  have HX1 := Lib.hid (HX.out.call hb)
  clear hb HX
  go_wp2_with fail
  refine (is_c now 0 1073741823 true HN.out w1).mono ?_
  rintro e w2 ⟨rfl, hb⟩
  have HX2 := Lib.hid (HX1.out.call hb)
  clear hb HX1
  obtain ⟨t0, t1, t2, t3, t4, t5, t6, t7⟩ := HX2.out.t8 (T := T) (b := bw) 0 rfl rfl
  go_wp2_with fail
  refine (tready_c T v true w2 (HR.out.below (by rw [hbw]; exact HX2.out.be)) HJ.out).mono ?_
  rintro e w3 ⟨rfl, hb⟩
  have HX3 := Lib.hid (HX2.out.call hb)
  clear hb HX2 t0 t1 t2 t3 t4 t5 t6 t7
  obtain ⟨t0, t1, t2, t3, t4, t5, t6, t7⟩ := HX3.out.t8 (T := T) (b := bw) 0 rfl rfl
  have hsz3 := HX3.out.size (by simp)
  go_wp2_with fail
  refine (queue_ok T v w3 (HR.out.below (by rw [hbw]; exact HX3.out.be)) (Tk.ok_len HK.out)).mono ?_
  rintro e w4 ⟨q, rfl, hQ⟩
  obtain ⟨S, hJ, hS, hb⟩ := hQ
  rw [HXR.out] at hJ
  obtain ⟨g, n, cap, rs, hq, hSq, hSg, hSl, hr0, hr1, hr2⟩ := hJ.ring
  have HX4 := Lib.hid (HX3.out.call hb)
  have hqb : bw + 3 ≤ q := Nat.le_trans hsz3 (hS q hSq)
  have hgb : bw + 3 ≤ g := Nat.le_trans hsz3 (hS g hSg)
  have HQ4 := Lib.hid hq
  have HR0 := Lib.hid hr0
  have HR1 := Lib.hid hr1
  have HR2 := Lib.hid hr2
  clear hb t0 t1 t2 t3 t4 t5 t6 t7 HX3 hJ hS hsz3 hSq hSg hSl hq hr0 hr1 hr2
  go_wp2_with fail
  refine (jhead_ok q g n cap 0 (r.length + 1) 8 rs x w4 HQ4.out (by omega) HR0.out).mono ?_
  rintro e w5 ⟨rfl, hb⟩
  have HX5 := Lib.hid (HX4.out.call hb)
  have HQ5 := Lib.hid (HQ4.out.below hb)
  have hq5 : q < w5.heap.size := HQ5.out.lt
  have hg5 : g < w5.heap.size := HQ5.out.ltg
  have hs5 := HX5.out.size (by simp)
  have hs5' : bw + 3 ≤ w5.heap.size := hs5
  obtain ⟨t0, t1, t2, t3, t4, t5, t6, t7⟩ := HX5.out.t8 (T := T) (b := bw) 0 rfl rfl
  obtain ⟨u0, u1, u2, u3, u4, u5, u6, u7⟩ := HX5.out.f8 (b := bw) 0 rfl rfl
  have hbw5 : bw < w5.heap.size := by omega
  clear hb HX4 HQ4 hs5
  go_wp2_with fail
  obtain ⟨W6, hW6⟩ : ∃ y, y = ((w5.setCell ⟨bw, 2, none⟩ (.int .i64 (T.g + 1))).setCell ⟨bw, 3, none⟩ (.int .i64 (T.o + 1))).alloc (.cells #[.int .i64 (x.f0 - 1), .int .i64 x.f1, .int .i64 x.f2, .int .i64 x.f3] 32) := ⟨_, rfl⟩
  rw [← hW6]
  obtain ⟨jb, hjb⟩ : ∃ b, b = w5.heap.size := ⟨_, rfl⟩
  rw [← hjb]
  have X6 : Chg (fun k => k = bw) w5 W6 := by rw [hW6]; exact (((Chg.refl (fun k => k = bw) w5).setCell _ _ rfl).setCell _ _ rfl).alloc _
  have HX6 : Hid (BX bw w W6 [Tk.cs ⟨T.p, T.js, T.g + 1, T.o + 1, T.l, T.d, T.c, T.t⟩ v, zT.cs nilS, zT.cs nilS]) := by
    rw [hW6]
    exact Lib.hid (((HX5.out.set 0 2 (.int .i64 (T.g + 1)) (c := T.cs v) rfl).set 0 3 (.int .i64 (T.o + 1)) rfl).alloc _)
  have hj6 : W6.heap[jb]? = some (.cells (jcs (⟨y0, x.f1, x.f2, x.f3⟩ : Jb)).1 32 (0, 0)) := by
    have := alloc_new ((w5.setCell ⟨bw, 2, none⟩ (.int .i64 (T.g + 1))).setCell ⟨bw, 3, none⟩ (.int .i64 (T.o + 1))) (.cells #[.int .i64 (x.f0 - 1), .int .i64 x.f1, .int .i64 x.f2, .int .i64 x.f3] 32)
    rw [← hW6] at this
    rw [hjb]
    rw [HY0.out]
    simpa using this
  have hqn : ¬ q = bw := by omega
  have hgn : ¬ g = bw := by omega
  have hq6 := HQ5.out.chg X6 hqn hgn
  have hjq : jb ≠ q := by omega
  have hjg : jb ≠ g := by omega
  have hjb3 : bw + 3 ≤ jb := by omega
  have HJ6 := Lib.hid hj6
  have HQ6 := Lib.hid hq6
  clear hW6 X6 hj6 hq6 HX5 HQ5 t0 t1 t2 t3 t4 t5 t6 t7 u0 u1 u2 u3 u4 u5 u6 u7 hq5 hg5 hs5' hjb hbw5
  rw [← HY0.out]
  refine (jput_ok q g n cap 0 (r.length + 1) 8 0 rs (⟨y0, x.f1, x.f2, x.f3⟩ : Jb) W6 HQ6.out (by omega)).mono ?_
  rintro e w7 ⟨rfl, hq7, hc7⟩
  rw [Nat.add_zero, Nat.zero_mod] at hq7
  have hx7 := HX6.out.chg hc7 (fun k s => s.elim (fun e => by rw [e]; exact hqb) (fun e => by rw [e]; exact hgb))
  have hj7 := hc7.heap HJ6.out (fun s => s.elim (fun e => hjq e) (fun e => hjg e))
  obtain ⟨j0, j1, j2, j3⟩ := box_cells (x := (⟨y0, x.f1, x.f2, x.f3⟩ : Jb)) hj7
  dsimp only at j0 j1 j2 j3
  have HX7 := Lib.hid hx7
  have HQ7 := Lib.hid hq7
  have HJ7 := Lib.hid hj7
  clear hc7 hq7 hx7 hj7 HX6 HQ6 HJ6
  obtain ⟨t0, t1, t2, t3, t4, t5, t6, t7⟩ := HX7.out.t8 (T := ⟨T.p, T.js, T.g + 1, T.o + 1, T.l, T.d, T.c, T.t⟩) (b := bw) 0 rfl rfl
  obtain ⟨u0, u1, u2, u3, u4, u5, u6, u7⟩ := HX7.out.f8 (b := bw) 0 rfl rfl
  go_wp2_with fail
  obtain ⟨W8, hW8⟩ : ∃ y, y = w7.setCell ⟨bw, 5, none⟩ (.int .i64 (T.d + 1)) := ⟨_, rfl⟩
  rw [← hW8]
  have X8 : Chg (fun k => k = bw) w7 W8 := by rw [hW8]; exact (Chg.refl (fun k => k = bw) w7).setCell _ _ rfl
  have HX8 : Hid (BX bw w W8 [Tk.cs ⟨T.p, T.js, T.g + 1, T.o + 1, T.l, T.d + 1, T.c, T.t⟩ v, zT.cs nilS, zT.cs nilS]) := by
    rw [hW8]
    exact Lib.hid (HX7.out.set 0 5 (.int .i64 (T.d + 1)) (c := Tk.cs ⟨T.p, T.js, T.g + 1, T.o + 1, T.l, T.d, T.c, T.t⟩ v) rfl)
  have HQ8 := Lib.hid (HQ7.out.chg X8 hqn hgn)
  have HJ8 := Lib.hid (X8.heap HJ7.out (by show ¬ jb = bw; omega))
  clear hW8 X8 HX7 HQ7 HJ7 t0 t1 t2 t3 t4 t5 t6 t7 u0 u1 u2 u3 u4 u5 u6 u7 j0 j1 j2 j3
  refine (jpop_ok q g n cap 0 (r.length + 1) 8 (rs.set 0 (⟨y0, x.f1, x.f2, x.f3⟩ : Jb)) (⟨y0, x.f1, x.f2, x.f3⟩ : Jb) W8 HQ8.out (by omega) (by rw [List.getElem?_set_self (by have := (List.getElem?_eq_some_iff.1 HR0.out).1; omega)])).mono ?_
  rintro e w9 ⟨rfl, hq9, hc9⟩
  have hx9 := HX8.out.chg hc9 (fun k s => s.elim (fun e => by rw [e]; exact hqb) (fun e => by rw [e]; exact hgb))
  have hj9 := hc9.heap HJ8.out (fun s => s.elim (fun e => hjq e) (fun e => hjg e))
  obtain ⟨j0, j1, j2, j3⟩ := box_cells (x := (⟨y0, x.f1, x.f2, x.f3⟩ : Jb)) hj9
  dsimp only at j0 j1 j2 j3
  obtain ⟨t0, t1, t2, t3, t4, t5, t6, t7⟩ := hx9.t8 (T := ⟨T.p, T.js, T.g + 1, T.o + 1, T.l, T.d + 1, T.c, T.t⟩) (b := bw) 0 rfl rfl
  obtain ⟨u0, u1, u2, u3, u4, u5, u6, u7⟩ := hx9.f8 (b := bw) 0 rfl rfl
  have HX9 := Lib.hid hx9
  have HQ9 := Lib.hid hq9
  clear hc9 hq9 hx9 hj9 HX8 HQ8 HJ8
  have HL := Lib.hid (jlist_some q g n cap ((0 + 1) % n) (r.length + 1 - 1) 8 ((rs.set 0 (⟨y0, x.f1, x.f2, x.f3⟩ : Jb)).set 0 zJ) w9 HQ9.out)
  rw [HR2.out] at HL
  go_wp2_with fail
  refine HL.out.mono ?_
  rintro e wZ ⟨v', rfl, hR, hb⟩
  obtain ⟨AZ, cZ, rfl⟩ := Kd.R_slice hR
  have hxZ := HX9.out.call hb
  have hR3 : kJ.R 32 wZ bw (fun k => bw + 3 ≤ k) (.slice AZ (r).length cZ) (r) := by
    have := Kd.R_lower hR (base' := bw + 3) (HX9.out.size (by simp))
    have k := Kd.R_mono (Kd.R_bound this) (ok' := fun k => bw + 3 ≤ k) (fun k hk => hk.2.1)
    exact Kd.R_lower k (by omega)
  have HRZ := Lib.hid hR3
  obtain ⟨t0, t1, t2, t3, t4, t5, t6, t7⟩ := hxZ.t8 (T := ⟨T.p, T.js, T.g + 1, T.o + 1, T.l, T.d + 1, T.c, T.t⟩) (b := bw) 0 rfl rfl
  obtain ⟨u0, u1, u2, u3, u4, u5, u6, u7⟩ := hxZ.f8 (b := bw) 0 rfl rfl
  obtain ⟨r0, r1, r2, r3, r4, r5, r6, r7⟩ := hxZ.t8 (T := zT) (b := bw + 1) 1 rfl rfl
  obtain ⟨f0, f1, f2, f3, f4, f5, f6, f7⟩ := hxZ.f8 (b := bw + 1) 1 rfl rfl
  have HXZ := Lib.hid hxZ
  clear hb hR hR3 hxZ HL HX9
  go_wp2
  refine bodyPost_ret (v := .tuple #[Tk.v ⟨T.p, r, T.g + 1, T.o + 1, T.l, T.d + 1, T.c, T.t⟩ (.slice AZ (r).length cZ), .int .i64 1, .int .i64 0, .nilIface]) (by simp [results, Try.results35, go_sem, r0, r1, r2, r3, r4, r5, r6, r7]) rfl ⟨_, rfl, ?_, ?_⟩
  · rw [hbw]
    refine Kd.R_mono (Kd.R_step HRZ.out (fun k hk hlt => ?_)) (fun _ _ => trivial)
    have hk' : bw + 3 ≤ k := hk
    have m1 : k ≠ bw := by omega
    have m2 : k ≠ bw + 1 := by omega
    rw [Below.heap_setCell _ _ _ _ m2, Below.heap_setCell _ _ _ _ m2, Below.heap_setCell _ _ _ _ m2, Below.heap_setCell _ _ _ _ m2, Below.heap_setCell _ _ _ _ m2, Below.heap_setCell _ _ _ _ m2, Below.heap_setCell _ _ _ _ m2, Below.heap_setCell _ _ _ _ m2, Below.heap_setCell _ _ _ _ m1]
  · rw [hbw]
    exact below_set8 (HXZ.out.be.setCell (p := ⟨bw, 1, none⟩) (Nat.le_refl _) _) (by omega) _ _ _ _ _ _ _ _
set_option maxHeartbeats 4000000 in
theorem trun_d0i (T : Tk) (v : Value) (now : Int) (w : World) (h : TR w v T.js) (x : Jb) (r : List Jb) (hxr : T.js = x :: r) (hk : T.okB = true) (hn : decide (0 ≤ now ∧ now ≤ 1073741823) = true) (hj : decide (0 < T.js.length) = true) (hg : (T.g == 1073741824) = false) (b1 : 0 ≤ T.g) (b2 : T.g ≤ 1073741824) (b3 : 0 ≤ T.o) (b4 : T.o ≤ 1073741824) (d1 : 0 ≤ T.d) (d2 : T.d ≤ 1073741824) (k1 : 0 ≤ T.c) (k2 : T.c ≤ 1073741824) (l1 : 0 ≤ T.t) (l2 : T.t ≤ 2147483648) (n0 : 0 ≤ now) (n1 : now ≤ 1073741823) (x0 : 1 ≤ x.f0) (x0' : x.f0 ≤ 1048576) (x1 : 0 ≤ x.f1) (x1' : x.f1 ≤ 1048576) (x2 : 0 ≤ x.f2) (x2' : x.f2 ≤ 1073741824) (x3 : 0 ≤ x.f3) (x3' : x.f3 ≤ 1073741824) (c1 : (x.f1 == 1) = false) (c1' : decide (0 < x.f1) = false) (y0 : Int) (hy0 : y0 = x.f0 - 1) (e0 : (y0 == 0) = true) (s1 : decide (0 < x.f3) = true) (ov : Int) (hov : ov = now + 1 - x.f2 - x.f3) (s2 : decide (0 < ov) = false) :
    Calls Try.prog 35 #[T.v v, .int .i64 now] w fun e w' => ∃ v', e = .returned (.tuple #[Tk.v ⟨T.p, r, T.g + 1, T.o + 1, T.l, T.d + 1, T.c, T.t⟩ v', .int .i64 1, .int .i64 0, .nilIface]) ∧ kJ.R 32 w' w.heap.size (fun _ => True) v' (Tk.js ⟨T.p, r, T.g + 1, T.o + 1, T.l, T.d + 1, T.c, T.t⟩) ∧ Below w.heap.size w w' := by
  have HN := Lib.hid hn
  have HJ := Lib.hid hj
  have HXR := Lib.hid hxr
  have HY0 := Lib.hid hy0
  have HOV := Lib.hid hov
  clear hov
  clear hn hj hxr hy0
  obtain ⟨W0, hW0⟩ : ∃ y, y = ((w.alloc (.cells #[.int .i64 T.p, v, .int .i64 T.g, .int .i64 T.o, .int .i64 T.l, .int .i64 T.d, .int .i64 T.c, .int .i64 T.t] 56)).alloc (.cells #[.int .i64 0, .slice none 0 0, .int .i64 0, .int .i64 0, .int .i64 0, .int .i64 0, .int .i64 0, .int .i64 0] 56)).alloc (.cells #[.int .i64 0, .slice none 0 0, .int .i64 0, .int .i64 0, .int .i64 0, .int .i64 0, .int .i64 0, .int .i64 0] 56) := ⟨_, rfl⟩
  have hx : BX w.heap.size w W0 [T.cs v, zT.cs nilS, zT.cs nilS] := by rw [hW0]; exact BX.new w [T.cs v, zT.cs nilS, zT.cs nilS]
  have HX := Lib.hid hx
  have HW0 := Lib.hid hW0
  have HR := Lib.hid h
  have HK := Lib.hid hk
  clear h hx hW0 hk
  go_enter Try.func35, Try.ntmps35
  go_wp2_with fail
  rw [← HW0.out]
  generalize hbw : w.heap.size = bw at *
  refine (tvalid_yes T v W0 (HR.out.below (by rw [hbw]; exact HX.out.be)) HK.out).mono ?_
  rintro e w1 ⟨rfl, hb⟩
  have HX1 := Lib.hid (HX.out.call hb)
  clear hb HX
  go_wp2_with fail
  refine (is_c now 0 1073741823 true HN.out w1).mono ?_
  rintro e w2 ⟨rfl, hb⟩
  have HX2 := Lib.hid (HX1.out.call hb)
  clear hb HX1
  obtain ⟨t0, t1, t2, t3, t4, t5, t6, t7⟩ := HX2.out.t8 (T := T) (b := bw) 0 rfl rfl
  go_wp2_with fail
  refine (tready_c T v true w2 (HR.out.below (by rw [hbw]; exact HX2.out.be)) HJ.out).mono ?_
  rintro e w3 ⟨rfl, hb⟩
  have HX3 := Lib.hid (HX2.out.call hb)
  clear hb HX2 t0 t1 t2 t3 t4 t5 t6 t7
  obtain ⟨t0, t1, t2, t3, t4, t5, t6, t7⟩ := HX3.out.t8 (T := T) (b := bw) 0 rfl rfl
  have hsz3 := HX3.out.size (by simp)
  go_wp2_with fail
  refine (queue_ok T v w3 (HR.out.below (by rw [hbw]; exact HX3.out.be)) (Tk.ok_len HK.out)).mono ?_
  rintro e w4 ⟨q, rfl, hQ⟩
  obtain ⟨S, hJ, hS, hb⟩ := hQ
  rw [HXR.out] at hJ
  obtain ⟨g, n, cap, rs, hq, hSq, hSg, hSl, hr0, hr1, hr2⟩ := hJ.ring
  have HX4 := Lib.hid (HX3.out.call hb)
  have hqb : bw + 3 ≤ q := Nat.le_trans hsz3 (hS q hSq)
  have hgb : bw + 3 ≤ g := Nat.le_trans hsz3 (hS g hSg)
  have HQ4 := Lib.hid hq
  have HR0 := Lib.hid hr0
  have HR1 := Lib.hid hr1
  have HR2 := Lib.hid hr2
  clear hb t0 t1 t2 t3 t4 t5 t6 t7 HX3 hJ hS hsz3 hSq hSg hSl hq hr0 hr1 hr2
  go_wp2_with fail
  refine (jhead_ok q g n cap 0 (r.length + 1) 8 rs x w4 HQ4.out (by omega) HR0.out).mono ?_
  rintro e w5 ⟨rfl, hb⟩
  have HX5 := Lib.hid (HX4.out.call hb)
  have HQ5 := Lib.hid (HQ4.out.below hb)
  have hq5 : q < w5.heap.size := HQ5.out.lt
  have hg5 : g < w5.heap.size := HQ5.out.ltg
  have hs5 := HX5.out.size (by simp)
  have hs5' : bw + 3 ≤ w5.heap.size := hs5
  obtain ⟨t0, t1, t2, t3, t4, t5, t6, t7⟩ := HX5.out.t8 (T := T) (b := bw) 0 rfl rfl
  obtain ⟨u0, u1, u2, u3, u4, u5, u6, u7⟩ := HX5.out.f8 (b := bw) 0 rfl rfl
  have hbw5 : bw < w5.heap.size := by omega
  clear hb HX4 HQ4 hs5
  go_wp2_with fail
  obtain ⟨W6, hW6⟩ : ∃ y, y = ((w5.setCell ⟨bw, 2, none⟩ (.int .i64 (T.g + 1))).setCell ⟨bw, 3, none⟩ (.int .i64 (T.o + 1))).alloc (.cells #[.int .i64 (x.f0 - 1), .int .i64 x.f1, .int .i64 x.f2, .int .i64 x.f3] 32) := ⟨_, rfl⟩
  rw [← hW6]
  obtain ⟨jb, hjb⟩ : ∃ b, b = w5.heap.size := ⟨_, rfl⟩
  rw [← hjb]
  have X6 : Chg (fun k => k = bw) w5 W6 := by rw [hW6]; exact (((Chg.refl (fun k => k = bw) w5).setCell _ _ rfl).setCell _ _ rfl).alloc _
  have HX6 : Hid (BX bw w W6 [Tk.cs ⟨T.p, T.js, T.g + 1, T.o + 1, T.l, T.d, T.c, T.t⟩ v, zT.cs nilS, zT.cs nilS]) := by
    rw [hW6]
    exact Lib.hid (((HX5.out.set 0 2 (.int .i64 (T.g + 1)) (c := T.cs v) rfl).set 0 3 (.int .i64 (T.o + 1)) rfl).alloc _)
  have hj6 : W6.heap[jb]? = some (.cells (jcs (⟨y0, x.f1, x.f2, x.f3⟩ : Jb)).1 32 (0, 0)) := by
    have := alloc_new ((w5.setCell ⟨bw, 2, none⟩ (.int .i64 (T.g + 1))).setCell ⟨bw, 3, none⟩ (.int .i64 (T.o + 1))) (.cells #[.int .i64 (x.f0 - 1), .int .i64 x.f1, .int .i64 x.f2, .int .i64 x.f3] 32)
    rw [← hW6] at this
    rw [hjb]
    rw [HY0.out]
    simpa using this
  have hqn : ¬ q = bw := by omega
  have hgn : ¬ g = bw := by omega
  have hq6 := HQ5.out.chg X6 hqn hgn
  have hjq : jb ≠ q := by omega
  have hjg : jb ≠ g := by omega
  have hjb3 : bw + 3 ≤ jb := by omega
  have HJ6 := Lib.hid hj6
  have HQ6 := Lib.hid hq6
  clear hW6 X6 hj6 hq6 HX5 HQ5 t0 t1 t2 t3 t4 t5 t6 t7 u0 u1 u2 u3 u4 u5 u6 u7 hq5 hg5 hs5' hjb hbw5
  rw [← HY0.out]
  refine (jput_ok q g n cap 0 (r.length + 1) 8 0 rs (⟨y0, x.f1, x.f2, x.f3⟩ : Jb) W6 HQ6.out (by omega)).mono ?_
  rintro e w7 ⟨rfl, hq7, hc7⟩
  rw [Nat.add_zero, Nat.zero_mod] at hq7
  have hx7 := HX6.out.chg hc7 (fun k s => s.elim (fun e => by rw [e]; exact hqb) (fun e => by rw [e]; exact hgb))
  have hj7 := hc7.heap HJ6.out (fun s => s.elim (fun e => hjq e) (fun e => hjg e))
  obtain ⟨j0, j1, j2, j3⟩ := box_cells (x := (⟨y0, x.f1, x.f2, x.f3⟩ : Jb)) hj7
  dsimp only at j0 j1 j2 j3
  have HX7 := Lib.hid hx7
  have HQ7 := Lib.hid hq7
  have HJ7 := Lib.hid hj7
  clear hc7 hq7 hx7 hj7 HX6 HQ6 HJ6
  obtain ⟨t0, t1, t2, t3, t4, t5, t6, t7⟩ := HX7.out.t8 (T := ⟨T.p, T.js, T.g + 1, T.o + 1, T.l, T.d, T.c, T.t⟩) (b := bw) 0 rfl rfl
  obtain ⟨u0, u1, u2, u3, u4, u5, u6, u7⟩ := HX7.out.f8 (b := bw) 0 rfl rfl
  go_wp2_with fail
  obtain ⟨W8, hW8⟩ : ∃ y, y = w7.setCell ⟨bw, 5, none⟩ (.int .i64 (T.d + 1)) := ⟨_, rfl⟩
  rw [← hW8]
  have X8 : Chg (fun k => k = bw) w7 W8 := by rw [hW8]; exact (Chg.refl (fun k => k = bw) w7).setCell _ _ rfl
  have HX8 : Hid (BX bw w W8 [Tk.cs ⟨T.p, T.js, T.g + 1, T.o + 1, T.l, T.d + 1, T.c, T.t⟩ v, zT.cs nilS, zT.cs nilS]) := by
    rw [hW8]
    exact Lib.hid (HX7.out.set 0 5 (.int .i64 (T.d + 1)) (c := Tk.cs ⟨T.p, T.js, T.g + 1, T.o + 1, T.l, T.d, T.c, T.t⟩ v) rfl)
  have HQ8 := Lib.hid (HQ7.out.chg X8 hqn hgn)
  have HJ8 := Lib.hid (X8.heap HJ7.out (by show ¬ jb = bw; omega))
  clear hW8 X8 HX7 HQ7 HJ7 t0 t1 t2 t3 t4 t5 t6 t7 u0 u1 u2 u3 u4 u5 u6 u7 j0 j1 j2 j3
  refine (jpop_ok q g n cap 0 (r.length + 1) 8 (rs.set 0 (⟨y0, x.f1, x.f2, x.f3⟩ : Jb)) (⟨y0, x.f1, x.f2, x.f3⟩ : Jb) W8 HQ8.out (by omega) (by rw [List.getElem?_set_self (by have := (List.getElem?_eq_some_iff.1 HR0.out).1; omega)])).mono ?_
  rintro e w9 ⟨rfl, hq9, hc9⟩
  have hx9 := HX8.out.chg hc9 (fun k s => s.elim (fun e => by rw [e]; exact hqb) (fun e => by rw [e]; exact hgb))
  have hj9 := hc9.heap HJ8.out (fun s => s.elim (fun e => hjq e) (fun e => hjg e))
  obtain ⟨j0, j1, j2, j3⟩ := box_cells (x := (⟨y0, x.f1, x.f2, x.f3⟩ : Jb)) hj9
  dsimp only at j0 j1 j2 j3
  obtain ⟨t0, t1, t2, t3, t4, t5, t6, t7⟩ := hx9.t8 (T := ⟨T.p, T.js, T.g + 1, T.o + 1, T.l, T.d + 1, T.c, T.t⟩) (b := bw) 0 rfl rfl
  obtain ⟨u0, u1, u2, u3, u4, u5, u6, u7⟩ := hx9.f8 (b := bw) 0 rfl rfl
  have HX9 := Lib.hid hx9
  have HQ9 := Lib.hid hq9
  clear hc9 hq9 hx9 hj9 HX8 HQ8 HJ8
  have sv : now + 1 - x.f2 - x.f3 = ov := HOV.out.symm
  have HL := Lib.hid (jlist_some q g n cap ((0 + 1) % n) (r.length + 1 - 1) 8 ((rs.set 0 (⟨y0, x.f1, x.f2, x.f3⟩ : Jb)).set 0 zJ) w9 HQ9.out)
  rw [HR2.out] at HL
  go_wp2_with fail
  refine HL.out.mono ?_
  rintro e wZ ⟨v', rfl, hR, hb⟩
  obtain ⟨AZ, cZ, rfl⟩ := Kd.R_slice hR
  have hxZ := HX9.out.call hb
  have hR3 : kJ.R 32 wZ bw (fun k => bw + 3 ≤ k) (.slice AZ (r).length cZ) (r) := by
    have := Kd.R_lower hR (base' := bw + 3) (HX9.out.size (by simp))
    have k := Kd.R_mono (Kd.R_bound this) (ok' := fun k => bw + 3 ≤ k) (fun k hk => hk.2.1)
    exact Kd.R_lower k (by omega)
  have HRZ := Lib.hid hR3
  obtain ⟨t0, t1, t2, t3, t4, t5, t6, t7⟩ := hxZ.t8 (T := ⟨T.p, T.js, T.g + 1, T.o + 1, T.l, T.d + 1, T.c, T.t⟩) (b := bw) 0 rfl rfl
  obtain ⟨u0, u1, u2, u3, u4, u5, u6, u7⟩ := hxZ.f8 (b := bw) 0 rfl rfl
  obtain ⟨r0, r1, r2, r3, r4, r5, r6, r7⟩ := hxZ.t8 (T := zT) (b := bw + 1) 1 rfl rfl
  obtain ⟨f0, f1, f2, f3, f4, f5, f6, f7⟩ := hxZ.f8 (b := bw + 1) 1 rfl rfl
  have HXZ := Lib.hid hxZ
  clear hb hR hR3 hxZ HL HX9
  go_wp2
  refine bodyPost_ret (v := .tuple #[Tk.v ⟨T.p, r, T.g + 1, T.o + 1, T.l, T.d + 1, T.c, T.t⟩ (.slice AZ (r).length cZ), .int .i64 1, .int .i64 0, .nilIface]) (by simp [results, Try.results35, go_sem, r0, r1, r2, r3, r4, r5, r6, r7]) rfl ⟨_, rfl, ?_, ?_⟩
  · rw [hbw]
    refine Kd.R_mono (Kd.R_step HRZ.out (fun k hk hlt => ?_)) (fun _ _ => trivial)
    have hk' : bw + 3 ≤ k := hk
    have m1 : k ≠ bw := by omega
    have m2 : k ≠ bw + 1 := by omega
    rw [Below.heap_setCell _ _ _ _ m2, Below.heap_setCell _ _ _ _ m2, Below.heap_setCell _ _ _ _ m2, Below.heap_setCell _ _ _ _ m2, Below.heap_setCell _ _ _ _ m2, Below.heap_setCell _ _ _ _ m2, Below.heap_setCell _ _ _ _ m2, Below.heap_setCell _ _ _ _ m2, Below.heap_setCell _ _ _ _ m1]
  · rw [hbw]
    exact below_set8 (HXZ.out.be.setCell (p := ⟨bw, 1, none⟩) (Nat.le_refl _) _) (by omega) _ _ _ _ _ _ _ _
set_option maxHeartbeats 4000000 in
theorem trun_d0l (T : Tk) (v : Value) (now : Int) (w : World) (h : TR w v T.js) (x : Jb) (r : List Jb) (hxr : T.js = x :: r) (hk : T.okB = true) (hn : decide (0 ≤ now ∧ now ≤ 1073741823) = true) (hj : decide (0 < T.js.length) = true) (hg : (T.g == 1073741824) = false) (b1 : 0 ≤ T.g) (b2 : T.g ≤ 1073741824) (b3 : 0 ≤ T.o) (b4 : T.o ≤ 1073741824) (d1 : 0 ≤ T.d) (d2 : T.d ≤ 1073741824) (k1 : 0 ≤ T.c) (k2 : T.c ≤ 1073741824) (l1 : 0 ≤ T.t) (l2 : T.t ≤ 2147483648) (n0 : 0 ≤ now) (n1 : now ≤ 1073741823) (x0 : 1 ≤ x.f0) (x0' : x.f0 ≤ 1048576) (x1 : 0 ≤ x.f1) (x1' : x.f1 ≤ 1048576) (x2 : 0 ≤ x.f2) (x2' : x.f2 ≤ 1073741824) (x3 : 0 ≤ x.f3) (x3' : x.f3 ≤ 1073741824) (c1 : (x.f1 == 1) = false) (c1' : decide (0 < x.f1) = false) (y0 : Int) (hy0 : y0 = x.f0 - 1) (e0 : (y0 == 0) = true) (s1 : decide (0 < x.f3) = true) (ov : Int) (hov : ov = now + 1 - x.f2 - x.f3) (s2 : decide (0 < ov) = true) :
    Calls Try.prog 35 #[T.v v, .int .i64 now] w fun e w' => ∃ v', e = .returned (.tuple #[Tk.v ⟨T.p, r, T.g + 1, T.o + 1, T.l, T.d + 1, T.c, T.t + 1⟩ v', .int .i64 1, .int .i64 ov, .nilIface]) ∧ kJ.R 32 w' w.heap.size (fun _ => True) v' (Tk.js ⟨T.p, r, T.g + 1, T.o + 1, T.l, T.d + 1, T.c, T.t + 1⟩) ∧ Below w.heap.size w w' := by
  have HN := Lib.hid hn
  have HJ := Lib.hid hj
  have HXR := Lib.hid hxr
  have HY0 := Lib.hid hy0
  have HOV := Lib.hid hov
  clear hov
  clear hn hj hxr hy0
  obtain ⟨W0, hW0⟩ : ∃ y, y = ((w.alloc (.cells #[.int .i64 T.p, v, .int .i64 T.g, .int .i64 T.o, .int .i64 T.l, .int .i64 T.d, .int .i64 T.c, .int .i64 T.t] 56)).alloc (.cells #[.int .i64 0, .slice none 0 0, .int .i64 0, .int .i64 0, .int .i64 0, .int .i64 0, .int .i64 0, .int .i64 0] 56)).alloc (.cells #[.int .i64 0, .slice none 0 0, .int .i64 0, .int .i64 0, .int .i64 0, .int .i64 0, .int .i64 0, .int .i64 0] 56) := ⟨_, rfl⟩
  have hx : BX w.heap.size w W0 [T.cs v, zT.cs nilS, zT.cs nilS] := by rw [hW0]; exact BX.new w [T.cs v, zT.cs nilS, zT.cs nilS]
  have HX := Lib.hid hx
  have HW0 := Lib.hid hW0
  have HR := Lib.hid h
  have HK := Lib.hid hk
  clear h hx hW0 hk
  go_enter Try.func35, Try.ntmps35
  go_wp2_with fail
  rw [← HW0.out]
  generalize hbw : w.heap.size = bw at *
  refine (tvalid_yes T v W0 (HR.out.below (by rw [hbw]; exact HX.out.be)) HK.out).mono ?_
  rintro e w1 ⟨rfl, hb⟩
  have HX1 := Lib.hid (HX.out.call hb)
  clear hb HX
  go_wp2_with fail
  refine (is_c now 0 1073741823 true HN.out w1).mono ?_
  rintro e w2 ⟨rfl, hb⟩
  have HX2 := Lib.hid (HX1.out.call hb)
  clear hb HX1
  obtain ⟨t0, t1, t2, t3, t4, t5, t6, t7⟩ := HX2.out.t8 (T := T) (b := bw) 0 rfl rfl
  go_wp2_with fail
  refine (tready_c T v true w2 (HR.out.below (by rw [hbw]; exact HX2.out.be)) HJ.out).mono ?_
  rintro e w3 ⟨rfl, hb⟩
  have HX3 := Lib.hid (HX2.out.call hb)
  clear hb HX2 t0 t1 t2 t3 t4 t5 t6 t7
  obtain ⟨t0, t1, t2, t3, t4, t5, t6, t7⟩ := HX3.out.t8 (T := T) (b := bw) 0 rfl rfl
  have hsz3 := HX3.out.size (by simp)
  go_wp2_with fail
  refine (queue_ok T v w3 (HR.out.below (by rw [hbw]; exact HX3.out.be)) (Tk.ok_len HK.out)).mono ?_
  rintro e w4 ⟨q, rfl, hQ⟩
  obtain ⟨S, hJ, hS, hb⟩ := hQ
  rw [HXR.out] at hJ
  obtain ⟨g, n, cap, rs, hq, hSq, hSg, hSl, hr0, hr1, hr2⟩ := hJ.ring
  have HX4 := Lib.hid (HX3.out.call hb)
  have hqb : bw + 3 ≤ q := Nat.le_trans hsz3 (hS q hSq)
  have hgb : bw + 3 ≤ g := Nat.le_trans hsz3 (hS g hSg)
  have HQ4 := Lib.hid hq
  have HR0 := Lib.hid hr0
  have HR1 := Lib.hid hr1
  have HR2 := Lib.hid hr2
  clear hb t0 t1 t2 t3 t4 t5 t6 t7 HX3 hJ hS hsz3 hSq hSg hSl hq hr0 hr1 hr2
  go_wp2_with fail
  refine (jhead_ok q g n cap 0 (r.length + 1) 8 rs x w4 HQ4.out (by omega) HR0.out).mono ?_
  rintro e w5 ⟨rfl, hb⟩
  have HX5 := Lib.hid (HX4.out.call hb)
  have HQ5 := Lib.hid (HQ4.out.below hb)
  have hq5 : q < w5.heap.size := HQ5.out.lt
  have hg5 : g < w5.heap.size := HQ5.out.ltg
  have hs5 := HX5.out.size (by simp)
  have hs5' : bw + 3 ≤ w5.heap.size := hs5
  obtain ⟨t0, t1, t2, t3, t4, t5, t6, t7⟩ := HX5.out.t8 (T := T) (b := bw) 0 rfl rfl
  obtain ⟨u0, u1, u2, u3, u4, u5, u6, u7⟩ := HX5.out.f8 (b := bw) 0 rfl rfl
  have hbw5 : bw < w5.heap.size := by omega
  clear hb HX4 HQ4 hs5
  go_wp2_with fail
  obtain ⟨W6, hW6⟩ : ∃ y, y = ((w5.setCell ⟨bw, 2, none⟩ (.int .i64 (T.g + 1))).setCell ⟨bw, 3, none⟩ (.int .i64 (T.o + 1))).alloc (.cells #[.int .i64 (x.f0 - 1), .int .i64 x.f1, .int .i64 x.f2, .int .i64 x.f3] 32) := ⟨_, rfl⟩
  rw [← hW6]
  obtain ⟨jb, hjb⟩ : ∃ b, b = w5.heap.size := ⟨_, rfl⟩
  rw [← hjb]
  have X6 : Chg (fun k => k = bw) w5 W6 := by rw [hW6]; exact (((Chg.refl (fun k => k = bw) w5).setCell _ _ rfl).setCell _ _ rfl).alloc _
  have HX6 : Hid (BX bw w W6 [Tk.cs ⟨T.p, T.js, T.g + 1, T.o + 1, T.l, T.d, T.c, T.t⟩ v, zT.cs nilS, zT.cs nilS]) := by
    rw [hW6]
    exact Lib.hid (((HX5.out.set 0 2 (.int .i64 (T.g + 1)) (c := T.cs v) rfl).set 0 3 (.int .i64 (T.o + 1)) rfl).alloc _)
  have hj6 : W6.heap[jb]? = some (.cells (jcs (⟨y0, x.f1, x.f2, x.f3⟩ : Jb)).1 32 (0, 0)) := by
    have := alloc_new ((w5.setCell ⟨bw, 2, none⟩ (.int .i64 (T.g + 1))).setCell ⟨bw, 3, none⟩ (.int .i64 (T.o + 1))) (.cells #[.int .i64 (x.f0 - 1), .int .i64 x.f1, .int .i64 x.f2, .int .i64 x.f3] 32)
    rw [← hW6] at this
    rw [hjb]
    rw [HY0.out]
    simpa using this
  have hqn : ¬ q = bw := by omega
  have hgn : ¬ g = bw := by omega
  have hq6 := HQ5.out.chg X6 hqn hgn
  have hjq : jb ≠ q := by omega
  have hjg : jb ≠ g := by omega
  have hjb3 : bw + 3 ≤ jb := by omega
  have HJ6 := Lib.hid hj6
  have HQ6 := Lib.hid hq6
  clear hW6 X6 hj6 hq6 HX5 HQ5 t0 t1 t2 t3 t4 t5 t6 t7 u0 u1 u2 u3 u4 u5 u6 u7 hq5 hg5 hs5' hjb hbw5
  rw [← HY0.out]
  refine (jput_ok q g n cap 0 (r.length + 1) 8 0 rs (⟨y0, x.f1, x.f2, x.f3⟩ : Jb) W6 HQ6.out (by omega)).mono ?_
  rintro e w7 ⟨rfl, hq7, hc7⟩
  rw [Nat.add_zero, Nat.zero_mod] at hq7
  have hx7 := HX6.out.chg hc7 (fun k s => s.elim (fun e => by rw [e]; exact hqb) (fun e => by rw [e]; exact hgb))
  have hj7 := hc7.heap HJ6.out (fun s => s.elim (fun e => hjq e) (fun e => hjg e))
  obtain ⟨j0, j1, j2, j3⟩ := box_cells (x := (⟨y0, x.f1, x.f2, x.f3⟩ : Jb)) hj7
  dsimp only at j0 j1 j2 j3
  have HX7 := Lib.hid hx7
  have HQ7 := Lib.hid hq7
  have HJ7 := Lib.hid hj7
  clear hc7 hq7 hx7 hj7 HX6 HQ6 HJ6
  obtain ⟨t0, t1, t2, t3, t4, t5, t6, t7⟩ := HX7.out.t8 (T := ⟨T.p, T.js, T.g + 1, T.o + 1, T.l, T.d, T.c, T.t⟩) (b := bw) 0 rfl rfl
  obtain ⟨u0, u1, u2, u3, u4, u5, u6, u7⟩ := HX7.out.f8 (b := bw) 0 rfl rfl
  go_wp2_with fail
  obtain ⟨W8, hW8⟩ : ∃ y, y = w7.setCell ⟨bw, 5, none⟩ (.int .i64 (T.d + 1)) := ⟨_, rfl⟩
  rw [← hW8]
  have X8 : Chg (fun k => k = bw) w7 W8 := by rw [hW8]; exact (Chg.refl (fun k => k = bw) w7).setCell _ _ rfl
  have HX8 : Hid (BX bw w W8 [Tk.cs ⟨T.p, T.js, T.g + 1, T.o + 1, T.l, T.d + 1, T.c, T.t⟩ v, zT.cs nilS, zT.cs nilS]) := by
    rw [hW8]
    exact Lib.hid (HX7.out.set 0 5 (.int .i64 (T.d + 1)) (c := Tk.cs ⟨T.p, T.js, T.g + 1, T.o + 1, T.l, T.d, T.c, T.t⟩ v) rfl)
  have HQ8 := Lib.hid (HQ7.out.chg X8 hqn hgn)
  have HJ8 := Lib.hid (X8.heap HJ7.out (by show ¬ jb = bw; omega))
  clear hW8 X8 HX7 HQ7 HJ7 t0 t1 t2 t3 t4 t5 t6 t7 u0 u1 u2 u3 u4 u5 u6 u7 j0 j1 j2 j3
  refine (jpop_ok q g n cap 0 (r.length + 1) 8 (rs.set 0 (⟨y0, x.f1, x.f2, x.f3⟩ : Jb)) (⟨y0, x.f1, x.f2, x.f3⟩ : Jb) W8 HQ8.out (by omega) (by rw [List.getElem?_set_self (by have := (List.getElem?_eq_some_iff.1 HR0.out).1; omega)])).mono ?_
  rintro e w9 ⟨rfl, hq9, hc9⟩
  have hx9 := HX8.out.chg hc9 (fun k s => s.elim (fun e => by rw [e]; exact hqb) (fun e => by rw [e]; exact hgb))
  have hj9 := hc9.heap HJ8.out (fun s => s.elim (fun e => hjq e) (fun e => hjg e))
  obtain ⟨j0, j1, j2, j3⟩ := box_cells (x := (⟨y0, x.f1, x.f2, x.f3⟩ : Jb)) hj9
  dsimp only at j0 j1 j2 j3
  obtain ⟨t0, t1, t2, t3, t4, t5, t6, t7⟩ := hx9.t8 (T := ⟨T.p, T.js, T.g + 1, T.o + 1, T.l, T.d + 1, T.c, T.t⟩) (b := bw) 0 rfl rfl
  obtain ⟨u0, u1, u2, u3, u4, u5, u6, u7⟩ := hx9.f8 (b := bw) 0 rfl rfl
  have HX9 := Lib.hid hx9
  have HQ9 := Lib.hid hq9
  clear hc9 hq9 hx9 hj9 HX8 HQ8 HJ8
  have sv : now + 1 - x.f2 - x.f3 = ov := HOV.out.symm
  go_wp2_with fail
  obtain ⟨WA, hWA⟩ : ∃ y, y = w9.setCell ⟨bw, 7, none⟩ (.int .i64 (T.t + 1)) := ⟨_, rfl⟩
  rw [← hWA]
  have XA : Chg (fun k => k = bw) w9 WA := by rw [hWA]; exact (Chg.refl (fun k => k = bw) w9).setCell _ _ rfl
  have HXA : Hid (BX bw w WA [Tk.cs ⟨T.p, T.js, T.g + 1, T.o + 1, T.l, T.d + 1, T.c, T.t + 1⟩ v, zT.cs nilS, zT.cs nilS]) := by
    rw [hWA]
    exact Lib.hid (HX9.out.set 0 7 (.int .i64 (T.t + 1)) (c := Tk.cs ⟨T.p, T.js, T.g + 1, T.o + 1, T.l, T.d + 1, T.c, T.t⟩ v) rfl)
  have HQA := Lib.hid (HQ9.out.chg XA hqn hgn)
  clear hWA XA HX9 HQ9 t0 t1 t2 t3 t4 t5 t6 t7 u0 u1 u2 u3 u4 u5 u6 u7 j0 j1 j2 j3
  have HL := Lib.hid (jlist_some q g n cap ((0 + 1) % n) (r.length + 1 - 1) 8 ((rs.set 0 (⟨y0, x.f1, x.f2, x.f3⟩ : Jb)).set 0 zJ) WA HQA.out)
  rw [HR2.out] at HL
  refine HL.out.mono ?_
  rintro e wZ ⟨v', rfl, hR, hb⟩
  obtain ⟨AZ, cZ, rfl⟩ := Kd.R_slice hR
  have hxZ := HXA.out.call hb
  have hR3 : kJ.R 32 wZ bw (fun k => bw + 3 ≤ k) (.slice AZ (r).length cZ) (r) := by
    have := Kd.R_lower hR (base' := bw + 3) (HXA.out.size (by simp))
    have k := Kd.R_mono (Kd.R_bound this) (ok' := fun k => bw + 3 ≤ k) (fun k hk => hk.2.1)
    exact Kd.R_lower k (by omega)
  have HRZ := Lib.hid hR3
  obtain ⟨t0, t1, t2, t3, t4, t5, t6, t7⟩ := hxZ.t8 (T := ⟨T.p, T.js, T.g + 1, T.o + 1, T.l, T.d + 1, T.c, T.t + 1⟩) (b := bw) 0 rfl rfl
  obtain ⟨u0, u1, u2, u3, u4, u5, u6, u7⟩ := hxZ.f8 (b := bw) 0 rfl rfl
  obtain ⟨r0, r1, r2, r3, r4, r5, r6, r7⟩ := hxZ.t8 (T := zT) (b := bw + 1) 1 rfl rfl
  obtain ⟨f0, f1, f2, f3, f4, f5, f6, f7⟩ := hxZ.f8 (b := bw + 1) 1 rfl rfl
  have HXZ := Lib.hid hxZ
  clear hb hR hR3 hxZ HL HXA
  go_wp2
  refine bodyPost_ret (v := .tuple #[Tk.v ⟨T.p, r, T.g + 1, T.o + 1, T.l, T.d + 1, T.c, T.t + 1⟩ (.slice AZ (r).length cZ), .int .i64 1, .int .i64 ov, .nilIface]) (by simp [results, Try.results35, go_sem, r0, r1, r2, r3, r4, r5, r6, r7]) rfl ⟨_, rfl, ?_, ?_⟩
  · rw [hbw]
    refine Kd.R_mono (Kd.R_step HRZ.out (fun k hk hlt => ?_)) (fun _ _ => trivial)
    have hk' : bw + 3 ≤ k := hk
    have m1 : k ≠ bw := by omega
    have m2 : k ≠ bw + 1 := by omega
    rw [Below.heap_setCell _ _ _ _ m2, Below.heap_setCell _ _ _ _ m2, Below.heap_setCell _ _ _ _ m2, Below.heap_setCell _ _ _ _ m2, Below.heap_setCell _ _ _ _ m2, Below.heap_setCell _ _ _ _ m2, Below.heap_setCell _ _ _ _ m2, Below.heap_setCell _ _ _ _ m2, Below.heap_setCell _ _ _ _ m1]
  · rw [hbw]
    exact below_set8 (HXZ.out.be.setCell (p := ⟨bw, 1, none⟩) (Nat.le_refl _) _) (by omega) _ _ _ _ _ _ _ _

end Go.Proofs.Ytdilediiofenmaa

set_option linter.unusedVariables false
set_option linter.unusedSimpArgs false
namespace Go.Proofs.Ytdilediiofenmaa
open Go.RowKit
open Go.Proofs.YtdilediiofenmaaW.PrintWords (Kd Drawn0 Kept rd rdOf)
open Go.Proofs.Ytdilediiofenmaa.PSlackRuns
set_option maxRecDepth 100000

set_option maxHeartbeats 4000000 in
theorem trun_d1n (T : Tk) (v : Value) (now : Int) (w : World) (h : TR w v T.js) (x : Jb) (r : List Jb) (hxr : T.js = x :: r) (hk : T.okB = true) (hn : decide (0 ≤ now ∧ now ≤ 1073741823) = true) (hj : decide (0 < T.js.length) = true) (hg : (T.g == 1073741824) = false) (b1 : 0 ≤ T.g) (b2 : T.g ≤ 1073741824) (b3 : 0 ≤ T.o) (b4 : T.o ≤ 1073741824) (d1 : 0 ≤ T.d) (d2 : T.d ≤ 1073741824) (k1 : 0 ≤ T.c) (k2 : T.c ≤ 1073741824) (l1 : 0 ≤ T.t) (l2 : T.t ≤ 2147483648) (n0 : 0 ≤ now) (n1 : now ≤ 1073741823) (x0 : 1 ≤ x.f0) (x0' : x.f0 ≤ 1048576) (x1 : 0 ≤ x.f1) (x1' : x.f1 ≤ 1048576) (x2 : 0 ≤ x.f2) (x2' : x.f2 ≤ 1073741824) (x3 : 0 ≤ x.f3) (x3' : x.f3 ≤ 1073741824) (c1 : (x.f1 == 1) = false) (c1' : decide (0 < x.f1) = true) (y0 : Int) (hy0 : y0 = x.f0 - 1) (e0 : (y0 == 0) = true) (s1 : decide (0 < x.f3) = false) :
    Calls Try.prog 35 #[T.v v, .int .i64 now] w fun e w' => ∃ v', e = .returned (.tuple #[Tk.v ⟨T.p, r, T.g + 1, T.o + 1, T.l, T.d + 1, T.c, T.t⟩ v', .int .i64 1, .int .i64 0, .nilIface]) ∧ kJ.R 32 w' w.heap.size (fun _ => True) v' (Tk.js ⟨T.p, r, T.g + 1, T.o + 1, T.l, T.d + 1, T.c, T.t⟩) ∧ Below w.heap.size w w' := by
  have HN := Lib.hid hn
  have HJ := Lib.hid hj
  have HXR := Lib.hid hxr
  have HY0 := Lib.hid hy0
  clear hn hj hxr hy0
  obtain ⟨W0, hW0⟩ : ∃ y, y = ((w.alloc (.cells #[.int .i64 T.p, v, .int .i64 T.g, .int .i64 T.o, .int .i64 T.l, .int .i64 T.d, .int .i64 T.c, .int .i64 T.t] 56)).alloc (.cells #[.int .i64 0, .slice none 0 0, .int .i64 0, .int .i64 0, .int .i64 0, .int .i64 0, .int .i64 0, .int .i64 0] 56)).alloc (.cells #[.int .i64 0, .slice none 0 0, .int .i64 0, .int .i64 0, .int .i64 0, .int .i64 0, .int .i64 0, .int .i64 0] 56) := ⟨_, rfl⟩
  have hx : BX w.heap.size w W0 [T.cs v, zT.cs nilS, zT.cs nilS] := by rw [hW0]; exact BX.new w [T.cs v, zT.cs nilS, zT.cs nilS]
  have HX := Lib.hid hx
  have HW0 := Lib.hid hW0
  have HR := Lib.hid h
  have HK := Lib.hid hk
  clear h hx hW0 hk
  go_enter Try.func35, Try.ntmps35
  go_wp2_with fail
  rw [← HW0.out]
  generalize hbw : w.heap.size = bw at *
  refine (tvalid_yes T v W0 (HR.out.below (by rw [hbw]; exact HX.out.be)) HK.out).mono ?_
  rintro e w1 ⟨rfl, hb⟩
  have HX1 := Lib.hid (HX.out.call hb)
  clear hb HX
  go_wp2_with fail
  refine (is_c now 0 1073741823 true HN.out w1).mono ?_
  rintro e w2 ⟨rfl, hb⟩
  have HX2 := Lib.hid (HX1.out.call hb)
  clear hb HX1
  obtain ⟨t0, t1, t2, t3, t4, t5, t6, t7⟩ := HX2.out.t8 (T := T) (b := bw) 0 rfl rfl
  go_wp2_with fail
  refine (tready_c T v true w2 (HR.out.below (by rw [hbw]; exact HX2.out.be)) HJ.out).mono ?_
  rintro e w3 ⟨rfl, hb⟩
  have HX3 := Lib.hid (HX2.out.call hb)
  clear hb HX2 t0 t1 t2 t3 t4 t5 t6 t7
  obtain ⟨t0, t1, t2, t3, t4, t5, t6, t7⟩ := HX3.out.t8 (T := T) (b := bw) 0 rfl rfl
  have hsz3 := HX3.out.size (by simp)
  go_wp2_with fail
  refine (queue_ok T v w3 (HR.out.below (by rw [hbw]; exact HX3.out.be)) (Tk.ok_len HK.out)).mono ?_
  rintro e w4 ⟨q, rfl, hQ⟩
  obtain ⟨S, hJ, hS, hb⟩ := hQ
  rw [HXR.out] at hJ
  obtain ⟨g, n, cap, rs, hq, hSq, hSg, hSl, hr0, hr1, hr2⟩ := hJ.ring
  have HX4 := Lib.hid (HX3.out.call hb)
  have hqb : bw + 3 ≤ q := Nat.le_trans hsz3 (hS q hSq)
  have hgb : bw + 3 ≤ g := Nat.le_trans hsz3 (hS g hSg)
  have HQ4 := Lib.hid hq
  have HR0 := Lib.hid hr0
  have HR1 := Lib.hid hr1
  have HR2 := Lib.hid hr2
  clear hb t0 t1 t2 t3 t4 t5 t6 t7 HX3 hJ hS hsz3 hSq hSg hSl hq hr0 hr1 hr2
  go_wp2_with fail
  refine (jhead_ok q g n cap 0 (r.length + 1) 8 rs x w4 HQ4.out (by omega) HR0.out).mono ?_
  rintro e w5 ⟨rfl, hb⟩
  have HX5 := Lib.hid (HX4.out.call hb)
  have HQ5 := Lib.hid (HQ4.out.below hb)
  have hq5 : q < w5.heap.size := HQ5.out.lt
  have hg5 : g < w5.heap.size := HQ5.out.ltg
  have hs5 := HX5.out.size (by simp)
  have hs5' : bw + 3 ≤ w5.heap.size := hs5
  obtain ⟨t0, t1, t2, t3, t4, t5, t6, t7⟩ := HX5.out.t8 (T := T) (b := bw) 0 rfl rfl
  obtain ⟨u0, u1, u2, u3, u4, u5, u6, u7⟩ := HX5.out.f8 (b := bw) 0 rfl rfl
  have hbw5 : bw < w5.heap.size := by omega
  clear hb HX4 HQ4 hs5
  go_wp2_with fail
  obtain ⟨W6, hW6⟩ : ∃ y, y = ((w5.setCell ⟨bw, 2, none⟩ (.int .i64 (T.g + 1))).setCell ⟨bw, 3, none⟩ (.int .i64 (T.o + 1))).alloc (.cells #[.int .i64 (x.f0 - 1), .int .i64 (x.f1 - 1), .int .i64 x.f2, .int .i64 x.f3] 32) := ⟨_, rfl⟩
  rw [← hW6]
  obtain ⟨jb, hjb⟩ : ∃ b, b = w5.heap.size := ⟨_, rfl⟩
  rw [← hjb]
  have X6 : Chg (fun k => k = bw) w5 W6 := by rw [hW6]; exact (((Chg.refl (fun k => k = bw) w5).setCell _ _ rfl).setCell _ _ rfl).alloc _
  have HX6 : Hid (BX bw w W6 [Tk.cs ⟨T.p, T.js, T.g + 1, T.o + 1, T.l, T.d, T.c, T.t⟩ v, zT.cs nilS, zT.cs nilS]) := by
    rw [hW6]
    exact Lib.hid (((HX5.out.set 0 2 (.int .i64 (T.g + 1)) (c := T.cs v) rfl).set 0 3 (.int .i64 (T.o + 1)) rfl).alloc _)
  have hj6 : W6.heap[jb]? = some (.cells (jcs (⟨y0, x.f1 - 1, x.f2, x.f3⟩ : Jb)).1 32 (0, 0)) := by
    have := alloc_new ((w5.setCell ⟨bw, 2, none⟩ (.int .i64 (T.g + 1))).setCell ⟨bw, 3, none⟩ (.int .i64 (T.o + 1))) (.cells #[.int .i64 (x.f0 - 1), .int .i64 (x.f1 - 1), .int .i64 x.f2, .int .i64 x.f3] 32)
    rw [← hW6] at this
    rw [hjb]
    rw [HY0.out]
    simpa using this
  have hqn : ¬ q = bw := by omega
  have hgn : ¬ g = bw := by omega
  have hq6 := HQ5.out.chg X6 hqn hgn
  have hjq : jb ≠ q := by omega
  have hjg : jb ≠ g := by omega
  have hjb3 : bw + 3 ≤ jb := by omega
  have HJ6 := Lib.hid hj6
  have HQ6 := Lib.hid hq6
  clear hW6 X6 hj6 hq6 HX5 HQ5 t0 t1 t2 t3 t4 t5 t6 t7 u0 u1 u2 u3 u4 u5 u6 u7 hq5 hg5 hs5' hjb hbw5
  rw [← HY0.out]
  refine (jput_ok q g n cap 0 (r.length + 1) 8 0 rs (⟨y0, x.f1 - 1, x.f2, x.f3⟩ : Jb) W6 HQ6.out (by omega)).mono ?_
  rintro e w7 ⟨rfl, hq7, hc7⟩
  rw [Nat.add_zero, Nat.zero_mod] at hq7
  have hx7 := HX6.out.chg hc7 (fun k s => s.elim (fun e => by rw [e]; exact hqb) (fun e => by rw [e]; exact hgb))
  have hj7 := hc7.heap HJ6.out (fun s => s.elim (fun e => hjq e) (fun e => hjg e))
  obtain ⟨j0, j1, j2, j3⟩ := box_cells (x := (⟨y0, x.f1 - 1, x.f2, x.f3⟩ : Jb)) hj7
  dsimp only at j0 j1 j2 j3
  have HX7 := Lib.hid hx7
  have HQ7 := Lib.hid hq7
  have HJ7 := Lib.hid hj7
  clear hc7 hq7 hx7 hj7 HX6 HQ6 HJ6
  obtain ⟨t0, t1, t2, t3, t4, t5, t6, t7⟩ := HX7.out.t8 (T := ⟨T.p, T.js, T.g + 1, T.o + 1, T.l, T.d, T.c, T.t⟩) (b := bw) 0 rfl rfl
  obtain ⟨u0, u1, u2, u3, u4, u5, u6, u7⟩ := HX7.out.f8 (b := bw) 0 rfl rfl
  go_wp2_with fail
  obtain ⟨W8, hW8⟩ : ∃ y, y = w7.setCell ⟨bw, 5, none⟩ (.int .i64 (T.d + 1)) := ⟨_, rfl⟩
  rw [← hW8]
  have X8 : Chg (fun k => k = bw) w7 W8 := by rw [hW8]; exact (Chg.refl (fun k => k = bw) w7).setCell _ _ rfl
  have HX8 : Hid (BX bw w W8 [Tk.cs ⟨T.p, T.js, T.g + 1, T.o + 1, T.l, T.d + 1, T.c, T.t⟩ v, zT.cs nilS, zT.cs nilS]) := by
    rw [hW8]
    exact Lib.hid (HX7.out.set 0 5 (.int .i64 (T.d + 1)) (c := Tk.cs ⟨T.p, T.js, T.g + 1, T.o + 1, T.l, T.d, T.c, T.t⟩ v) rfl)
  have HQ8 := Lib.hid (HQ7.out.chg X8 hqn hgn)
  have HJ8 := Lib.hid (X8.heap HJ7.out (by show ¬ jb = bw; omega))
  clear hW8 X8 HX7 HQ7 HJ7 t0 t1 t2 t3 t4 t5 t6 t7 u0 u1 u2 u3 u4 u5 u6 u7 j0 j1 j2 j3
  refine (jpop_ok q g n cap 0 (r.length + 1) 8 (rs.set 0 (⟨y0, x.f1 - 1, x.f2, x.f3⟩ : Jb)) (⟨y0, x.f1 - 1, x.f2, x.f3⟩ : Jb) W8 HQ8.out (by omega) (by rw [List.getElem?_set_self (by have := (List.getElem?_eq_some_iff.1 HR0.out).1; omega)])).mono ?_
  rintro e w9 ⟨rfl, hq9, hc9⟩
  have hx9 := HX8.out.chg hc9 (fun k s => s.elim (fun e => by rw [e]; exact hqb) (fun e => by rw [e]; exact hgb))
  have hj9 := hc9.heap HJ8.out (fun s => s.elim (fun e => hjq e) (fun e => hjg e))
  obtain ⟨j0, j1, j2, j3⟩ := box_cells (x := (⟨y0, x.f1 - 1, x.f2, x.f3⟩ : Jb)) hj9
  dsimp only at j0 j1 j2 j3
  obtain ⟨t0, t1, t2, t3, t4, t5, t6, t7⟩ := hx9.t8 (T := ⟨T.p, T.js, T.g + 1, T.o + 1, T.l, T.d + 1, T.c, T.t⟩) (b := bw) 0 rfl rfl
  obtain ⟨u0, u1, u2, u3, u4, u5, u6, u7⟩ := hx9.f8 (b := bw) 0 rfl rfl
  have HX9 := Lib.hid hx9
  have HQ9 := Lib.hid hq9
  clear hc9 hq9 hx9 hj9 HX8 HQ8 HJ8
  have HL := Lib.hid (jlist_some q g n cap ((0 + 1) % n) (r.length + 1 - 1) 8 ((rs.set 0 (⟨y0, x.f1 - 1, x.f2, x.f3⟩ : Jb)).set 0 zJ) w9 HQ9.out)
  rw [HR2.out] at HL
  go_wp2_with fail
  refine HL.out.mono ?_
  rintro e wZ ⟨v', rfl, hR, hb⟩
  obtain ⟨AZ, cZ, rfl⟩ := Kd.R_slice hR
  have hxZ := HX9.out.call hb
  have hR3 : kJ.R 32 wZ bw (fun k => bw + 3 ≤ k) (.slice AZ (r).length cZ) (r) := by
    have := Kd.R_lower hR (base' := bw + 3) (HX9.out.size (by simp))
    have k := Kd.R_mono (Kd.R_bound this) (ok' := fun k => bw + 3 ≤ k) (fun k hk => hk.2.1)
    exact Kd.R_lower k (by omega)
  have HRZ := Lib.hid hR3
  obtain ⟨t0, t1, t2, t3, t4, t5, t6, t7⟩ := hxZ.t8 (T := ⟨T.p, T.js, T.g + 1, T.o + 1, T.l, T.d + 1, T.c, T.t⟩) (b := bw) 0 rfl rfl
  obtain ⟨u0, u1, u2, u3, u4, u5, u6, u7⟩ := hxZ.f8 (b := bw) 0 rfl rfl
  obtain ⟨r0, r1, r2, r3, r4, r5, r6, r7⟩ := hxZ.t8 (T := zT) (b := bw + 1) 1 rfl rfl
  obtain ⟨f0, f1, f2, f3, f4, f5, f6, f7⟩ := hxZ.f8 (b := bw + 1) 1 rfl rfl
  have HXZ := Lib.hid hxZ
  clear hb hR hR3 hxZ HL HX9
  go_wp2
  refine bodyPost_ret (v := .tuple #[Tk.v ⟨T.p, r, T.g + 1, T.o + 1, T.l, T.d + 1, T.c, T.t⟩ (.slice AZ (r).length cZ), .int .i64 1, .int .i64 0, .nilIface]) (by simp [results, Try.results35, go_sem, r0, r1, r2, r3, r4, r5, r6, r7]) rfl ⟨_, rfl, ?_, ?_⟩
  · rw [hbw]
    refine Kd.R_mono (Kd.R_step HRZ.out (fun k hk hlt => ?_)) (fun _ _ => trivial)
    have hk' : bw + 3 ≤ k := hk
    have m1 : k ≠ bw := by omega
    have m2 : k ≠ bw + 1 := by omega
    rw [Below.heap_setCell _ _ _ _ m2, Below.heap_setCell _ _ _ _ m2, Below.heap_setCell _ _ _ _ m2, Below.heap_setCell _ _ _ _ m2, Below.heap_setCell _ _ _ _ m2, Below.heap_setCell _ _ _ _ m2, Below.heap_setCell _ _ _ _ m2, Below.heap_setCell _ _ _ _ m2, Below.heap_setCell _ _ _ _ m1]
  · rw [hbw]
    exact below_set8 (HXZ.out.be.setCell (p := ⟨bw, 1, none⟩) (Nat.le_refl _) _) (by omega) _ _ _ _ _ _ _ _
set_option maxHeartbeats 4000000 in
theorem trun_d1i (T : Tk) (v : Value) (now : Int) (w : World) (h : TR w v T.js) (x : Jb) (r : List Jb) (hxr : T.js = x :: r) (hk : T.okB = true) (hn : decide (0 ≤ now ∧ now ≤ 1073741823) = true) (hj : decide (0 < T.js.length) = true) (hg : (T.g == 1073741824) = false) (b1 : 0 ≤ T.g) (b2 : T.g ≤ 1073741824) (b3 : 0 ≤ T.o) (b4 : T.o ≤ 1073741824) (d1 : 0 ≤ T.d) (d2 : T.d ≤ 1073741824) (k1 : 0 ≤ T.c) (k2 : T.c ≤ 1073741824) (l1 : 0 ≤ T.t) (l2 : T.t ≤ 2147483648) (n0 : 0 ≤ now) (n1 : now ≤ 1073741823) (x0 : 1 ≤ x.f0) (x0' : x.f0 ≤ 1048576) (x1 : 0 ≤ x.f1) (x1' : x.f1 ≤ 1048576) (x2 : 0 ≤ x.f2) (x2' : x.f2 ≤ 1073741824) (x3 : 0 ≤ x.f3) (x3' : x.f3 ≤ 1073741824) (c1 : (x.f1 == 1) = false) (c1' : decide (0 < x.f1) = true) (y0 : Int) (hy0 : y0 = x.f0 - 1) (e0 : (y0 == 0) = true) (s1 : decide (0 < x.f3) = true) (ov : Int) (hov : ov = now + 1 - x.f2 - x.f3) (s2 : decide (0 < ov) = false) :
    Calls Try.prog 35 #[T.v v, .int .i64 now] w fun e w' => ∃ v', e = .returned (.tuple #[Tk.v ⟨T.p, r, T.g + 1, T.o + 1, T.l, T.d + 1, T.c, T.t⟩ v', .int .i64 1, .int .i64 0, .nilIface]) ∧ kJ.R 32 w' w.heap.size (fun _ => True) v' (Tk.js ⟨T.p, r, T.g + 1, T.o + 1, T.l, T.d + 1, T.c, T.t⟩) ∧ Below w.heap.size w w' := by
  have HN := Lib.hid hn
  have HJ := Lib.hid hj
  have HXR := Lib.hid hxr
  have HY0 := Lib.hid hy0
  have HOV := Lib.hid hov
  clear hov
  clear hn hj hxr hy0
  obtain ⟨W0, hW0⟩ : ∃ y, y = ((w.alloc (.cells #[.int .i64 T.p, v, .int .i64 T.g, .int .i64 T.o, .int .i64 T.l, .int .i64 T.d, .int .i64 T.c, .int .i64 T.t] 56)).alloc (.cells #[.int .i64 0, .slice none 0 0, .int .i64 0, .int .i64 0, .int .i64 0, .int .i64 0, .int .i64 0, .int .i64 0] 56)).alloc (.cells #[.int .i64 0, .slice none 0 0, .int .i64 0, .int .i64 0, .int .i64 0, .int .i64 0, .int .i64 0, .int .i64 0] 56) := ⟨_, rfl⟩
  have hx : BX w.heap.size w W0 [T.cs v, zT.cs nilS, zT.cs nilS] := by rw [hW0]; exact BX.new w [T.cs v, zT.cs nilS, zT.cs nilS]
  have HX := Lib.hid hx
  have HW0 := Lib.hid hW0
  have HR := Lib.hid h
  have HK := Lib.hid hk
  clear h hx hW0 hk
  go_enter Try.func35, Try.ntmps35
  go_wp2_with fail
  rw [← HW0.out]
  generalize hbw : w.heap.size = bw at *
  refine (tvalid_yes T v W0 (HR.out.below (by rw [hbw]; exact HX.out.be)) HK.out).mono ?_
  rintro e w1 ⟨rfl, hb⟩
  have HX1 := Lib.hid (HX.out.call hb)
  clear hb HX
  go_wp2_with fail
  refine (is_c now 0 1073741823 true HN.out w1).mono ?_
  rintro e w2 ⟨rfl, hb⟩
  have HX2 := Lib.hid (HX1.out.call hb)
  clear hb HX1
  obtain ⟨t0, t1, t2, t3, t4, t5, t6, t7⟩ := HX2.out.t8 (T := T) (b := bw) 0 rfl rfl
  go_wp2_with fail
  refine (tready_c T v true w2 (HR.out.below (by rw [hbw]; exact HX2.out.be)) HJ.out).mono ?_
  rintro e w3 ⟨rfl, hb⟩
  have HX3 := Lib.hid (HX2.out.call hb)
  clear hb HX2 t0 t1 t2 t3 t4 t5 t6 t7
  obtain ⟨t0, t1, t2, t3, t4, t5, t6, t7⟩ := HX3.out.t8 (T := T) (b := bw) 0 rfl rfl
  have hsz3 := HX3.out.size (by simp)
  go_wp2_with fail
  refine (queue_ok T v w3 (HR.out.below (by rw [hbw]; exact HX3.out.be)) (Tk.ok_len HK.out)).mono ?_
  rintro e w4 ⟨q, rfl, hQ⟩
  obtain ⟨S, hJ, hS, hb⟩ := hQ
  rw [HXR.out] at hJ
  obtain ⟨g, n, cap, rs, hq, hSq, hSg, hSl, hr0, hr1, hr2⟩ := hJ.ring
  have HX4 := Lib.hid (HX3.out.call hb)
  have hqb : bw + 3 ≤ q := Nat.le_trans hsz3 (hS q hSq)
  have hgb : bw + 3 ≤ g := Nat.le_trans hsz3 (hS g hSg)
  have HQ4 := Lib.hid hq
  have HR0 := Lib.hid hr0
  have HR1 := Lib.hid hr1
  have HR2 := Lib.hid hr2
  clear hb t0 t1 t2 t3 t4 t5 t6 t7 HX3 hJ hS hsz3 hSq hSg hSl hq hr0 hr1 hr2
  go_wp2_with fail
  refine (jhead_ok q g n cap 0 (r.length + 1) 8 rs x w4 HQ4.out (by omega) HR0.out).mono ?_
  rintro e w5 ⟨rfl, hb⟩
  have HX5 := Lib.hid (HX4.out.call hb)
  have HQ5 := Lib.hid (HQ4.out.below hb)
  have hq5 : q < w5.heap.size := HQ5.out.lt
  have hg5 : g < w5.heap.size := HQ5.out.ltg
  have hs5 := HX5.out.size (by simp)
  have hs5' : bw + 3 ≤ w5.heap.size := hs5
  obtain ⟨t0, t1, t2, t3, t4, t5, t6, t7⟩ := HX5.out.t8 (T := T) (b := bw) 0 rfl rfl
  obtain ⟨u0, u1, u2, u3, u4, u5, u6, u7⟩ := HX5.out.f8 (b := bw) 0 rfl rfl
  have hbw5 : bw < w5.heap.size := by omega
  clear hb HX4 HQ4 hs5
  go_wp2_with fail
  obtain ⟨W6, hW6⟩ : ∃ y, y = ((w5.setCell ⟨bw, 2, none⟩ (.int .i64 (T.g + 1))).setCell ⟨bw, 3, none⟩ (.int .i64 (T.o + 1))).alloc (.cells #[.int .i64 (x.f0 - 1), .int .i64 (x.f1 - 1), .int .i64 x.f2, .int .i64 x.f3] 32) := ⟨_, rfl⟩
  rw [← hW6]
  obtain ⟨jb, hjb⟩ : ∃ b, b = w5.heap.size := ⟨_, rfl⟩
  rw [← hjb]
  have X6 : Chg (fun k => k = bw) w5 W6 := by rw [hW6]; exact (((Chg.refl (fun k => k = bw) w5).setCell _ _ rfl).setCell _ _ rfl).alloc _
  have HX6 : Hid (BX bw w W6 [Tk.cs ⟨T.p, T.js, T.g + 1, T.o + 1, T.l, T.d, T.c, T.t⟩ v, zT.cs nilS, zT.cs nilS]) := by
    rw [hW6]
    exact Lib.hid (((HX5.out.set 0 2 (.int .i64 (T.g + 1)) (c := T.cs v) rfl).set 0 3 (.int .i64 (T.o + 1)) rfl).alloc _)
  have hj6 : W6.heap[jb]? = some (.cells (jcs (⟨y0, x.f1 - 1, x.f2, x.f3⟩ : Jb)).1 32 (0, 0)) := by
    have := alloc_new ((w5.setCell ⟨bw, 2, none⟩ (.int .i64 (T.g + 1))).setCell ⟨bw, 3, none⟩ (.int .i64 (T.o + 1))) (.cells #[.int .i64 (x.f0 - 1), .int .i64 (x.f1 - 1), .int .i64 x.f2, .int .i64 x.f3] 32)
    rw [← hW6] at this
    rw [hjb]
    rw [HY0.out]
    simpa using this
  have hqn : ¬ q = bw := by omega
  have hgn : ¬ g = bw := by omega
  have hq6 := HQ5.out.chg X6 hqn hgn
  have hjq : jb ≠ q := by omega
  have hjg : jb ≠ g := by omega
  have hjb3 : bw + 3 ≤ jb := by omega
  have HJ6 := Lib.hid hj6
  have HQ6 := Lib.hid hq6
  clear hW6 X6 hj6 hq6 HX5 HQ5 t0 t1 t2 t3 t4 t5 t6 t7 u0 u1 u2 u3 u4 u5 u6 u7 hq5 hg5 hs5' hjb hbw5
  rw [← HY0.out]
  refine (jput_ok q g n cap 0 (r.length + 1) 8 0 rs (⟨y0, x.f1 - 1, x.f2, x.f3⟩ : Jb) W6 HQ6.out (by omega)).mono ?_
  rintro e w7 ⟨rfl, hq7, hc7⟩
  rw [Nat.add_zero, Nat.zero_mod] at hq7
  have hx7 := HX6.out.chg hc7 (fun k s => s.elim (fun e => by rw [e]; exact hqb) (fun e => by rw [e]; exact hgb))
  have hj7 := hc7.heap HJ6.out (fun s => s.elim (fun e => hjq e) (fun e => hjg e))
  obtain ⟨j0, j1, j2, j3⟩ := box_cells (x := (⟨y0, x.f1 - 1, x.f2, x.f3⟩ : Jb)) hj7
  dsimp only at j0 j1 j2 j3
  have HX7 := Lib.hid hx7
  have HQ7 := Lib.hid hq7
  have HJ7 := Lib.hid hj7
  clear hc7 hq7 hx7 hj7 HX6 HQ6 HJ6
  obtain ⟨t0, t1, t2, t3, t4, t5, t6, t7⟩ := HX7.out.t8 (T := ⟨T.p, T.js, T.g + 1, T.o + 1, T.l, T.d, T.c, T.t⟩) (b := bw) 0 rfl rfl
  obtain ⟨u0, u1, u2, u3, u4, u5, u6, u7⟩ := HX7.out.f8 (b := bw) 0 rfl rfl
  go_wp2_with fail
  obtain ⟨W8, hW8⟩ : ∃ y, y = w7.setCell ⟨bw, 5, none⟩ (.int .i64 (T.d + 1)) := ⟨_, rfl⟩
  rw [← hW8]
  have X8 : Chg (fun k => k = bw) w7 W8 := by rw [hW8]; exact (Chg.refl (fun k => k = bw) w7).setCell _ _ rfl
  have HX8 : Hid (BX bw w W8 [Tk.cs ⟨T.p, T.js, T.g + 1, T.o + 1, T.l, T.d + 1, T.c, T.t⟩ v, zT.cs nilS, zT.cs nilS]) := by
    rw [hW8]
    exact Lib.hid (HX7.out.set 0 5 (.int .i64 (T.d + 1)) (c := Tk.cs ⟨T.p, T.js, T.g + 1, T.o + 1, T.l, T.d, T.c, T.t⟩ v) rfl)
  have HQ8 := Lib.hid (HQ7.out.chg X8 hqn hgn)
  have HJ8 := Lib.hid (X8.heap HJ7.out (by show ¬ jb = bw; omega))
  clear hW8 X8 HX7 HQ7 HJ7 t0 t1 t2 t3 t4 t5 t6 t7 u0 u1 u2 u3 u4 u5 u6 u7 j0 j1 j2 j3
  refine (jpop_ok q g n cap 0 (r.length + 1) 8 (rs.set 0 (⟨y0, x.f1 - 1, x.f2, x.f3⟩ : Jb)) (⟨y0, x.f1 - 1, x.f2, x.f3⟩ : Jb) W8 HQ8.out (by omega) (by rw [List.getElem?_set_self (by have := (List.getElem?_eq_some_iff.1 HR0.out).1; omega)])).mono ?_
  rintro e w9 ⟨rfl, hq9, hc9⟩
  have hx9 := HX8.out.chg hc9 (fun k s => s.elim (fun e => by rw [e]; exact hqb) (fun e => by rw [e]; exact hgb))
  have hj9 := hc9.heap HJ8.out (fun s => s.elim (fun e => hjq e) (fun e => hjg e))
  obtain ⟨j0, j1, j2, j3⟩ := box_cells (x := (⟨y0, x.f1 - 1, x.f2, x.f3⟩ : Jb)) hj9
  dsimp only at j0 j1 j2 j3
  obtain ⟨t0, t1, t2, t3, t4, t5, t6, t7⟩ := hx9.t8 (T := ⟨T.p, T.js, T.g + 1, T.o + 1, T.l, T.d + 1, T.c, T.t⟩) (b := bw) 0 rfl rfl
  obtain ⟨u0, u1, u2, u3, u4, u5, u6, u7⟩ := hx9.f8 (b := bw) 0 rfl rfl
  have HX9 := Lib.hid hx9
  have HQ9 := Lib.hid hq9
  clear hc9 hq9 hx9 hj9 HX8 HQ8 HJ8
  have sv : now + 1 - x.f2 - x.f3 = ov := HOV.out.symm
  have HL := Lib.hid (jlist_some q g n cap ((0 + 1) % n) (r.length + 1 - 1) 8 ((rs.set 0 (⟨y0, x.f1 - 1, x.f2, x.f3⟩ : Jb)).set 0 zJ) w9 HQ9.out)
  rw [HR2.out] at HL
  go_wp2_with fail
  refine HL.out.mono ?_
  rintro e wZ ⟨v', rfl, hR, hb⟩
  obtain ⟨AZ, cZ, rfl⟩ := Kd.R_slice hR
  have hxZ := HX9.out.call hb
  have hR3 : kJ.R 32 wZ bw (fun k => bw + 3 ≤ k) (.slice AZ (r).length cZ) (r) := by
    have := Kd.R_lower hR (base' := bw + 3) (HX9.out.size (by simp))
    have k := Kd.R_mono (Kd.R_bound this) (ok' := fun k => bw + 3 ≤ k) (fun k hk => hk.2.1)
    exact Kd.R_lower k (by omega)
  have HRZ := Lib.hid hR3
  obtain ⟨t0, t1, t2, t3, t4, t5, t6, t7⟩ := hxZ.t8 (T := ⟨T.p, T.js, T.g + 1, T.o + 1, T.l, T.d + 1, T.c, T.t⟩) (b := bw) 0 rfl rfl
  obtain ⟨u0, u1, u2, u3, u4, u5, u6, u7⟩ := hxZ.f8 (b := bw) 0 rfl rfl
  obtain ⟨r0, r1, r2, r3, r4, r5, r6, r7⟩ := hxZ.t8 (T := zT) (b := bw + 1) 1 rfl rfl
  obtain ⟨f0, f1, f2, f3, f4, f5, f6, f7⟩ := hxZ.f8 (b := bw + 1) 1 rfl rfl
  have HXZ := Lib.hid hxZ
  clear hb hR hR3 hxZ HL HX9
  go_wp2
  refine bodyPost_ret (v := .tuple #[Tk.v ⟨T.p, r, T.g + 1, T.o + 1, T.l, T.d + 1, T.c, T.t⟩ (.slice AZ (r).length cZ), .int .i64 1, .int .i64 0, .nilIface]) (by simp [results, Try.results35, go_sem, r0, r1, r2, r3, r4, r5, r6, r7]) rfl ⟨_, rfl, ?_, ?_⟩
  · rw [hbw]
    refine Kd.R_mono (Kd.R_step HRZ.out (fun k hk hlt => ?_)) (fun _ _ => trivial)
    have hk' : bw + 3 ≤ k := hk
    have m1 : k ≠ bw := by omega
    have m2 : k ≠ bw + 1 := by omega
    rw [Below.heap_setCell _ _ _ _ m2, Below.heap_setCell _ _ _ _ m2, Below.heap_setCell _ _ _ _ m2, Below.heap_setCell _ _ _ _ m2, Below.heap_setCell _ _ _ _ m2, Below.heap_setCell _ _ _ _ m2, Below.heap_setCell _ _ _ _ m2, Below.heap_setCell _ _ _ _ m2, Below.heap_setCell _ _ _ _ m1]
  · rw [hbw]
    exact below_set8 (HXZ.out.be.setCell (p := ⟨bw, 1, none⟩) (Nat.le_refl _) _) (by omega) _ _ _ _ _ _ _ _
set_option maxHeartbeats 4000000 in
theorem trun_d1l (T : Tk) (v : Value) (now : Int) (w : World) (h : TR w v T.js) (x : Jb) (r : List Jb) (hxr : T.js = x :: r) (hk : T.okB = true) (hn : decide (0 ≤ now ∧ now ≤ 1073741823) = true) (hj : decide (0 < T.js.length) = true) (hg : (T.g == 1073741824) = false) (b1 : 0 ≤ T.g) (b2 : T.g ≤ 1073741824) (b3 : 0 ≤ T.o) (b4 : T.o ≤ 1073741824) (d1 : 0 ≤ T.d) (d2 : T.d ≤ 1073741824) (k1 : 0 ≤ T.c) (k2 : T.c ≤ 1073741824) (l1 : 0 ≤ T.t) (l2 : T.t ≤ 2147483648) (n0 : 0 ≤ now) (n1 : now ≤ 1073741823) (x0 : 1 ≤ x.f0) (x0' : x.f0 ≤ 1048576) (x1 : 0 ≤ x.f1) (x1' : x.f1 ≤ 1048576) (x2 : 0 ≤ x.f2) (x2' : x.f2 ≤ 1073741824) (x3 : 0 ≤ x.f3) (x3' : x.f3 ≤ 1073741824) (c1 : (x.f1 == 1) = false) (c1' : decide (0 < x.f1) = true) (y0 : Int) (hy0 : y0 = x.f0 - 1) (e0 : (y0 == 0) = true) (s1 : decide (0 < x.f3) = true) (ov : Int) (hov : ov = now + 1 - x.f2 - x.f3) (s2 : decide (0 < ov) = true) :
    Calls Try.prog 35 #[T.v v, .int .i64 now] w fun e w' => ∃ v', e = .returned (.tuple #[Tk.v ⟨T.p, r, T.g + 1, T.o + 1, T.l, T.d + 1, T.c, T.t + 1⟩ v', .int .i64 1, .int .i64 ov, .nilIface]) ∧ kJ.R 32 w' w.heap.size (fun _ => True) v' (Tk.js ⟨T.p, r, T.g + 1, T.o + 1, T.l, T.d + 1, T.c, T.t + 1⟩) ∧ Below w.heap.size w w' := by
  have HN := Lib.hid hn
  have HJ := Lib.hid hj
  have HXR := Lib.hid hxr
  have HY0 := Lib.hid hy0
  have HOV := Lib.hid hov
  clear hov
  clear hn hj hxr hy0
  obtain ⟨W0, hW0⟩ : ∃ y, y = ((w.alloc (.cells #[.int .i64 T.p, v, .int .i64 T.g, .int .i64 T.o, .int .i64 T.l, .int .i64 T.d, .int .i64 T.c, .int .i64 T.t] 56)).alloc (.cells #[.int .i64 0, .slice none 0 0, .int .i64 0, .int .i64 0, .int .i64 0, .int .i64 0, .int .i64 0, .int .i64 0] 56)).alloc (.cells #[.int .i64 0, .slice none 0 0, .int .i64 0, .int .i64 0, .int .i64 0, .int .i64 0, .int .i64 0, .int .i64 0] 56) := ⟨_, rfl⟩
  have hx : BX w.heap.size w W0 [T.cs v, zT.cs nilS, zT.cs nilS] := by rw [hW0]; exact BX.new w [T.cs v, zT.cs nilS, zT.cs nilS]
  have HX := Lib.hid hx
  have HW0 := Lib.hid hW0
  have HR := Lib.hid h
  have HK := Lib.hid hk
  clear h hx hW0 hk
  go_enter Try.func35, Try.ntmps35
  go_wp2_with fail
  rw [← HW0.out]
  generalize hbw : w.heap.size = bw at *
  refine (tvalid_yes T v W0 (HR.out.below (by rw [hbw]; exact HX.out.be)) HK.out).mono ?_
  rintro e w1 ⟨rfl, hb⟩
  have HX1 := Lib.hid (HX.out.call hb)
  clear hb HX
  go_wp2_with fail
  refine (is_c now 0 1073741823 true HN.out w1).mono ?_
  rintro e w2 ⟨rfl, hb⟩
  have HX2 := Lib.hid (HX1.out.call hb)
  clear hb HX1
  obtain ⟨t0, t1, t2, t3, t4, t5, t6, t7⟩ := HX2.out.t8 (T := T) (b := bw) 0 rfl rfl
  go_wp2_with fail
  refine (tready_c T v true w2 (HR.out.below (by rw [hbw]; exact HX2.out.be)) HJ.out).mono ?_
  rintro e w3 ⟨rfl, hb⟩
  have HX3 := Lib.hid (HX2.out.call hb)
  clear hb HX2 t0 t1 t2 t3 t4 t5 t6 t7
  obtain ⟨t0, t1, t2, t3, t4, t5, t6, t7⟩ := HX3.out.t8 (T := T) (b := bw) 0 rfl rfl
  have hsz3 := HX3.out.size (by simp)
  go_wp2_with fail
  refine (queue_ok T v w3 (HR.out.below (by rw [hbw]; exact HX3.out.be)) (Tk.ok_len HK.out)).mono ?_
  rintro e w4 ⟨q, rfl, hQ⟩
  obtain ⟨S, hJ, hS, hb⟩ := hQ
  rw [HXR.out] at hJ
  obtain ⟨g, n, cap, rs, hq, hSq, hSg, hSl, hr0, hr1, hr2⟩ := hJ.ring
  have HX4 := Lib.hid (HX3.out.call hb)
  have hqb : bw + 3 ≤ q := Nat.le_trans hsz3 (hS q hSq)
  have hgb : bw + 3 ≤ g := Nat.le_trans hsz3 (hS g hSg)
  have HQ4 := Lib.hid hq
  have HR0 := Lib.hid hr0
  have HR1 := Lib.hid hr1
  have HR2 := Lib.hid hr2
  clear hb t0 t1 t2 t3 t4 t5 t6 t7 HX3 hJ hS hsz3 hSq hSg hSl hq hr0 hr1 hr2
  go_wp2_with fail
  refine (jhead_ok q g n cap 0 (r.length + 1) 8 rs x w4 HQ4.out (by omega) HR0.out).mono ?_
  rintro e w5 ⟨rfl, hb⟩
  have HX5 := Lib.hid (HX4.out.call hb)
  have HQ5 := Lib.hid (HQ4.out.below hb)
  have hq5 : q < w5.heap.size := HQ5.out.lt
  have hg5 : g < w5.heap.size := HQ5.out.ltg
  have hs5 := HX5.out.size (by simp)
  have hs5' : bw + 3 ≤ w5.heap.size := hs5
  obtain ⟨t0, t1, t2, t3, t4, t5, t6, t7⟩ := HX5.out.t8 (T := T) (b := bw) 0 rfl rfl
  obtain ⟨u0, u1, u2, u3, u4, u5, u6, u7⟩ := HX5.out.f8 (b := bw) 0 rfl rfl
  have hbw5 : bw < w5.heap.size := by omega
  clear hb HX4 HQ4 hs5
  go_wp2_with fail
  obtain ⟨W6, hW6⟩ : ∃ y, y = ((w5.setCell ⟨bw, 2, none⟩ (.int .i64 (T.g + 1))).setCell ⟨bw, 3, none⟩ (.int .i64 (T.o + 1))).alloc (.cells #[.int .i64 (x.f0 - 1), .int .i64 (x.f1 - 1), .int .i64 x.f2, .int .i64 x.f3] 32) := ⟨_, rfl⟩
  rw [← hW6]
  obtain ⟨jb, hjb⟩ : ∃ b, b = w5.heap.size := ⟨_, rfl⟩
  rw [← hjb]
  have X6 : Chg (fun k => k = bw) w5 W6 := by rw [hW6]; exact (((Chg.refl (fun k => k = bw) w5).setCell _ _ rfl).setCell _ _ rfl).alloc _
  have HX6 : Hid (BX bw w W6 [Tk.cs ⟨T.p, T.js, T.g + 1, T.o + 1, T.l, T.d, T.c, T.t⟩ v, zT.cs nilS, zT.cs nilS]) := by
    rw [hW6]
    exact Lib.hid (((HX5.out.set 0 2 (.int .i64 (T.g + 1)) (c := T.cs v) rfl).set 0 3 (.int .i64 (T.o + 1)) rfl).alloc _)
  have hj6 : W6.heap[jb]? = some (.cells (jcs (⟨y0, x.f1 - 1, x.f2, x.f3⟩ : Jb)).1 32 (0, 0)) := by
    have := alloc_new ((w5.setCell ⟨bw, 2, none⟩ (.int .i64 (T.g + 1))).setCell ⟨bw, 3, none⟩ (.int .i64 (T.o + 1))) (.cells #[.int .i64 (x.f0 - 1), .int .i64 (x.f1 - 1), .int .i64 x.f2, .int .i64 x.f3] 32)
    rw [← hW6] at this
    rw [hjb]
    rw [HY0.out]
    simpa using this
  have hqn : ¬ q = bw := by omega
  have hgn : ¬ g = bw := by omega
  have hq6 := HQ5.out.chg X6 hqn hgn
  have hjq : jb ≠ q := by omega
  have hjg : jb ≠ g := by omega
  have hjb3 : bw + 3 ≤ jb := by omega
  have HJ6 := Lib.hid hj6
  have HQ6 := Lib.hid hq6
  clear hW6 X6 hj6 hq6 HX5 HQ5 t0 t1 t2 t3 t4 t5 t6 t7 u0 u1 u2 u3 u4 u5 u6 u7 hq5 hg5 hs5' hjb hbw5
  rw [← HY0.out]
  refine (jput_ok q g n cap 0 (r.length + 1) 8 0 rs (⟨y0, x.f1 - 1, x.f2, x.f3⟩ : Jb) W6 HQ6.out (by omega)).mono ?_
  rintro e w7 ⟨rfl, hq7, hc7⟩
  rw [Nat.add_zero, Nat.zero_mod] at hq7
  have hx7 := HX6.out.chg hc7 (fun k s => s.elim (fun e => by rw [e]; exact hqb) (fun e => by rw [e]; exact hgb))
  have hj7 := hc7.heap HJ6.out (fun s => s.elim (fun e => hjq e) (fun e => hjg e))
  obtain ⟨j0, j1, j2, j3⟩ := box_cells (x := (⟨y0, x.f1 - 1, x.f2, x.f3⟩ : Jb)) hj7
  dsimp only at j0 j1 j2 j3
  have HX7 := Lib.hid hx7
  have HQ7 := Lib.hid hq7
  have HJ7 := Lib.hid hj7
  clear hc7 hq7 hx7 hj7 HX6 HQ6 HJ6
  obtain ⟨t0, t1, t2, t3, t4, t5, t6, t7⟩ := HX7.out.t8 (T := ⟨T.p, T.js, T.g + 1, T.o + 1, T.l, T.d, T.c, T.t⟩) (b := bw) 0 rfl rfl
  obtain ⟨u0, u1, u2, u3, u4, u5, u6, u7⟩ := HX7.out.f8 (b := bw) 0 rfl rfl
  go_wp2_with fail
  obtain ⟨W8, hW8⟩ : ∃ y, y = w7.setCell ⟨bw, 5, none⟩ (.int .i64 (T.d + 1)) := ⟨_, rfl⟩
  rw [← hW8]
  have X8 : Chg (fun k => k = bw) w7 W8 := by rw [hW8]; exact (Chg.refl (fun k => k = bw) w7).setCell _ _ rfl
  have HX8 : Hid (BX bw w W8 [Tk.cs ⟨T.p, T.js, T.g + 1, T.o + 1, T.l, T.d + 1, T.c, T.t⟩ v, zT.cs nilS, zT.cs nilS]) := by
    rw [hW8]
    exact Lib.hid (HX7.out.set 0 5 (.int .i64 (T.d + 1)) (c := Tk.cs ⟨T.p, T.js, T.g + 1, T.o + 1, T.l, T.d, T.c, T.t⟩ v) rfl)
  have HQ8 := Lib.hid (HQ7.out.chg X8 hqn hgn)
  have HJ8 := Lib.hid (X8.heap HJ7.out (by show ¬ jb = bw; omega))
  clear hW8 X8 HX7 HQ7 HJ7 t0 t1 t2 t3 t4 t5 t6 t7 u0 u1 u2 u3 u4 u5 u6 u7 j0 j1 j2 j3
  refine (jpop_ok q g n cap 0 (r.length + 1) 8 (rs.set 0 (⟨y0, x.f1 - 1, x.f2, x.f3⟩ : Jb)) (⟨y0, x.f1 - 1, x.f2, x.f3⟩ : Jb) W8 HQ8.out (by omega) (by rw [List.getElem?_set_self (by have := (List.getElem?_eq_some_iff.1 HR0.out).1; omega)])).mono ?_
  rintro e w9 ⟨rfl, hq9, hc9⟩
  have hx9 := HX8.out.chg hc9 (fun k s => s.elim (fun e => by rw [e]; exact hqb) (fun e => by rw [e]; exact hgb))
  have hj9 := hc9.heap HJ8.out (fun s => s.elim (fun e => hjq e) (fun e => hjg e))
  obtain ⟨j0, j1, j2, j3⟩ := box_cells (x := (⟨y0, x.f1 - 1, x.f2, x.f3⟩ : Jb)) hj9
  dsimp only at j0 j1 j2 j3
  obtain ⟨t0, t1, t2, t3, t4, t5, t6, t7⟩ := hx9.t8 (T := ⟨T.p, T.js, T.g + 1, T.o + 1, T.l, T.d + 1, T.c, T.t⟩) (b := bw) 0 rfl rfl
  obtain ⟨u0, u1, u2, u3, u4, u5, u6, u7⟩ := hx9.f8 (b := bw) 0 rfl rfl
  have HX9 := Lib.hid hx9
  have HQ9 := Lib.hid hq9
  clear hc9 hq9 hx9 hj9 HX8 HQ8 HJ8
  have sv : now + 1 - x.f2 - x.f3 = ov := HOV.out.symm
  go_wp2_with fail
  obtain ⟨WA, hWA⟩ : ∃ y, y = w9.setCell ⟨bw, 7, none⟩ (.int .i64 (T.t + 1)) := ⟨_, rfl⟩
  rw [← hWA]
  have XA : Chg (fun k => k = bw) w9 WA := by rw [hWA]; exact (Chg.refl (fun k => k = bw) w9).setCell _ _ rfl
  have HXA : Hid (BX bw w WA [Tk.cs ⟨T.p, T.js, T.g + 1, T.o + 1, T.l, T.d + 1, T.c, T.t + 1⟩ v, zT.cs nilS, zT.cs nilS]) := by
    rw [hWA]
    exact Lib.hid (HX9.out.set 0 7 (.int .i64 (T.t + 1)) (c := Tk.cs ⟨T.p, T.js, T.g + 1, T.o + 1, T.l, T.d + 1, T.c, T.t⟩ v) rfl)
  have HQA := Lib.hid (HQ9.out.chg XA hqn hgn)
  clear hWA XA HX9 HQ9 t0 t1 t2 t3 t4 t5 t6 t7 u0 u1 u2 u3 u4 u5 u6 u7 j0 j1 j2 j3
  have HL := Lib.hid (jlist_some q g n cap ((0 + 1) % n) (r.length + 1 - 1) 8 ((rs.set 0 (⟨y0, x.f1 - 1, x.f2, x.f3⟩ : Jb)).set 0 zJ) WA HQA.out)
  rw [HR2.out] at HL
  refine HL.out.mono ?_
  rintro e wZ ⟨v', rfl, hR, hb⟩
  obtain ⟨AZ, cZ, rfl⟩ := Kd.R_slice hR
  have hxZ := HXA.out.call hb
  have hR3 : kJ.R 32 wZ bw (fun k => bw + 3 ≤ k) (.slice AZ (r).length cZ) (r) := by
    have := Kd.R_lower hR (base' := bw + 3) (HXA.out.size (by simp))
    have k := Kd.R_mono (Kd.R_bound this) (ok' := fun k => bw + 3 ≤ k) (fun k hk => hk.2.1)
    exact Kd.R_lower k (by omega)
  have HRZ := Lib.hid hR3
  obtain ⟨t0, t1, t2, t3, t4, t5, t6, t7⟩ := hxZ.t8 (T := ⟨T.p, T.js, T.g + 1, T.o + 1, T.l, T.d + 1, T.c, T.t + 1⟩) (b := bw) 0 rfl rfl
  obtain ⟨u0, u1, u2, u3, u4, u5, u6, u7⟩ := hxZ.f8 (b := bw) 0 rfl rfl
  obtain ⟨r0, r1, r2, r3, r4, r5, r6, r7⟩ := hxZ.t8 (T := zT) (b := bw + 1) 1 rfl rfl
  obtain ⟨f0, f1, f2, f3, f4, f5, f6, f7⟩ := hxZ.f8 (b := bw + 1) 1 rfl rfl
  have HXZ := Lib.hid hxZ
  clear hb hR hR3 hxZ HL HXA
  go_wp2
  refine bodyPost_ret (v := .tuple #[Tk.v ⟨T.p, r, T.g + 1, T.o + 1, T.l, T.d + 1, T.c, T.t + 1⟩ (.slice AZ (r).length cZ), .int .i64 1, .int .i64 ov, .nilIface]) (by simp [results, Try.results35, go_sem, r0, r1, r2, r3, r4, r5, r6, r7]) rfl ⟨_, rfl, ?_, ?_⟩
  · rw [hbw]
    refine Kd.R_mono (Kd.R_step HRZ.out (fun k hk hlt => ?_)) (fun _ _ => trivial)
    have hk' : bw + 3 ≤ k := hk
    have m1 : k ≠ bw := by omega
    have m2 : k ≠ bw + 1 := by omega
    rw [Below.heap_setCell _ _ _ _ m2, Below.heap_setCell _ _ _ _ m2, Below.heap_setCell _ _ _ _ m2, Below.heap_setCell _ _ _ _ m2, Below.heap_setCell _ _ _ _ m2, Below.heap_setCell _ _ _ _ m2, Below.heap_setCell _ _ _ _ m2, Below.heap_setCell _ _ _ _ m2, Below.heap_setCell _ _ _ _ m1]
  · rw [hbw]
    exact below_set8 (HXZ.out.be.setCell (p := ⟨bw, 1, none⟩) (Nat.le_refl _) _) (by omega) _ _ _ _ _ _ _ _

end Go.Proofs.Ytdilediiofenmaa

set_option linter.unusedVariables false
set_option linter.unusedSimpArgs false
namespace Go.Proofs.Ytdilediiofenmaa
open Go.RowKit
open Go.Proofs.YtdilediiofenmaaW.PrintWords (Kd Drawn0 Kept rd rdOf)
open Go.Proofs.Ytdilediiofenmaa.PSlackRuns
set_option maxRecDepth 100000

set_option maxHeartbeats 4000000 in
theorem trun_d2n (T : Tk) (v : Value) (now : Int) (w : World) (h : TR w v T.js) (x : Jb) (r : List Jb) (hxr : T.js = x :: r) (hk : T.okB = true) (hn : decide (0 ≤ now ∧ now ≤ 1073741823) = true) (hj : decide (0 < T.js.length) = true) (hg : (T.g == 1073741824) = false) (b1 : 0 ≤ T.g) (b2 : T.g ≤ 1073741824) (b3 : 0 ≤ T.o) (b4 : T.o ≤ 1073741824) (d1 : 0 ≤ T.d) (d2 : T.d ≤ 1073741824) (k1 : 0 ≤ T.c) (k2 : T.c ≤ 1073741824) (l1 : 0 ≤ T.t) (l2 : T.t ≤ 2147483648) (n0 : 0 ≤ now) (n1 : now ≤ 1073741823) (x0 : 1 ≤ x.f0) (x0' : x.f0 ≤ 1048576) (x1 : 0 ≤ x.f1) (x1' : x.f1 ≤ 1048576) (x2 : 0 ≤ x.f2) (x2' : x.f2 ≤ 1073741824) (x3 : 0 ≤ x.f3) (x3' : x.f3 ≤ 1073741824) (c1 : (x.f1 == 1) = true) (c1' : decide (0 < x.f1) = true) (y0 : Int) (hy0 : y0 = x.f0 - 1) (e0 : (y0 == 0) = true) (s1 : decide (0 < x.f3) = false) :
    Calls Try.prog 35 #[T.v v, .int .i64 now] w fun e w' => ∃ v', e = .returned (.tuple #[Tk.v ⟨T.p, r, T.g + 1, T.o + 1, T.l, T.d + 1, T.c, T.t⟩ v', .int .i64 1, .int .i64 0, .nilIface]) ∧ kJ.R 32 w' w.heap.size (fun _ => True) v' (Tk.js ⟨T.p, r, T.g + 1, T.o + 1, T.l, T.d + 1, T.c, T.t⟩) ∧ Below w.heap.size w w' := by
  have HN := Lib.hid hn
  have HJ := Lib.hid hj
  have HXR := Lib.hid hxr
  have HY0 := Lib.hid hy0
  clear hn hj hxr hy0
  obtain ⟨W0, hW0⟩ : ∃ y, y = ((w.alloc (.cells #[.int .i64 T.p, v, .int .i64 T.g, .int .i64 T.o, .int .i64 T.l, .int .i64 T.d, .int .i64 T.c, .int .i64 T.t] 56)).alloc (.cells #[.int .i64 0, .slice none 0 0, .int .i64 0, .int .i64 0, .int .i64 0, .int .i64 0, .int .i64 0, .int .i64 0] 56)).alloc (.cells #[.int .i64 0, .slice none 0 0, .int .i64 0, .int .i64 0, .int .i64 0, .int .i64 0, .int .i64 0, .int .i64 0] 56) := ⟨_, rfl⟩
  have hx : BX w.heap.size w W0 [T.cs v, zT.cs nilS, zT.cs nilS] := by rw [hW0]; exact BX.new w [T.cs v, zT.cs nilS, zT.cs nilS]
  have HX := Lib.hid hx
  have HW0 := Lib.hid hW0
  have HR := Lib.hid h
  have HK := Lib.hid hk
  clear h hx hW0 hk
  go_enter Try.func35, Try.ntmps35
  go_wp2_with fail
  rw [← HW0.out]
  generalize hbw : w.heap.size = bw at *
  refine (tvalid_yes T v W0 (HR.out.below (by rw [hbw]; exact HX.out.be)) HK.out).mono ?_
  rintro e w1 ⟨rfl, hb⟩
  have HX1 := Lib.hid (HX.out.call hb)
  clear hb HX
  go_wp2_with fail
  refine (is_c now 0 1073741823 true HN.out w1).mono ?_
  rintro e w2 ⟨rfl, hb⟩
  have HX2 := Lib.hid (HX1.out.call hb)
  clear hb HX1
  obtain ⟨t0, t1, t2, t3, t4, t5, t6, t7⟩ := HX2.out.t8 (T := T) (b := bw) 0 rfl rfl
  go_wp2_with fail
  refine (tready_c T v true w2 (HR.out.below (by rw [hbw]; exact HX2.out.be)) HJ.out).mono ?_
  rintro e w3 ⟨rfl, hb⟩
  have HX3 := Lib.hid (HX2.out.call hb)
  clear hb HX2 t0 t1 t2 t3 t4 t5 t6 t7
  obtain ⟨t0, t1, t2, t3, t4, t5, t6, t7⟩ := HX3.out.t8 (T := T) (b := bw) 0 rfl rfl
  have hsz3 := HX3.out.size (by simp)
  go_wp2_with fail
  refine (queue_ok T v w3 (HR.out.below (by rw [hbw]; exact HX3.out.be)) (Tk.ok_len HK.out)).mono ?_
  rintro e w4 ⟨q, rfl, hQ⟩
  obtain ⟨S, hJ, hS, hb⟩ := hQ
  rw [HXR.out] at hJ
  obtain ⟨g, n, cap, rs, hq, hSq, hSg, hSl, hr0, hr1, hr2⟩ := hJ.ring
  have HX4 := Lib.hid (HX3.out.call hb)
  have hqb : bw + 3 ≤ q := Nat.le_trans hsz3 (hS q hSq)
  have hgb : bw + 3 ≤ g := Nat.le_trans hsz3 (hS g hSg)
  have HQ4 := Lib.hid hq
  have HR0 := Lib.hid hr0
  have HR1 := Lib.hid hr1
  have HR2 := Lib.hid hr2
  clear hb t0 t1 t2 t3 t4 t5 t6 t7 HX3 hJ hS hsz3 hSq hSg hSl hq hr0 hr1 hr2
  go_wp2_with fail
  refine (jhead_ok q g n cap 0 (r.length + 1) 8 rs x w4 HQ4.out (by omega) HR0.out).mono ?_
  rintro e w5 ⟨rfl, hb⟩
  have HX5 := Lib.hid (HX4.out.call hb)
  have HQ5 := Lib.hid (HQ4.out.below hb)
  have hq5 : q < w5.heap.size := HQ5.out.lt
  have hg5 : g < w5.heap.size := HQ5.out.ltg
  have hs5 := HX5.out.size (by simp)
  have hs5' : bw + 3 ≤ w5.heap.size := hs5
  obtain ⟨t0, t1, t2, t3, t4, t5, t6, t7⟩ := HX5.out.t8 (T := T) (b := bw) 0 rfl rfl
  obtain ⟨u0, u1, u2, u3, u4, u5, u6, u7⟩ := HX5.out.f8 (b := bw) 0 rfl rfl
  have hbw5 : bw < w5.heap.size := by omega
  clear hb HX4 HQ4 hs5
  go_wp2_with fail
  obtain ⟨W6, hW6⟩ : ∃ y, y = ((w5.setCell ⟨bw, 2, none⟩ (.int .i64 (T.g + 1))).setCell ⟨bw, 3, none⟩ (.int .i64 (T.o + 1))).alloc (.cells #[.int .i64 (x.f0 - 1), .int .i64 (x.f1 - 1), .int .i64 x.f2, .int .i64 x.f3] 32) := ⟨_, rfl⟩
  rw [← hW6]
  obtain ⟨jb, hjb⟩ : ∃ b, b = w5.heap.size := ⟨_, rfl⟩
  rw [← hjb]
  have X6 : Chg (fun k => k = bw) w5 W6 := by rw [hW6]; exact (((Chg.refl (fun k => k = bw) w5).setCell _ _ rfl).setCell _ _ rfl).alloc _
  have HX6 : Hid (BX bw w W6 [Tk.cs ⟨T.p, T.js, T.g + 1, T.o + 1, T.l, T.d, T.c, T.t⟩ v, zT.cs nilS, zT.cs nilS]) := by
    rw [hW6]
    exact Lib.hid (((HX5.out.set 0 2 (.int .i64 (T.g + 1)) (c := T.cs v) rfl).set 0 3 (.int .i64 (T.o + 1)) rfl).alloc _)
  have hj6 : W6.heap[jb]? = some (.cells (jcs (⟨y0, x.f1 - 1, x.f2, x.f3⟩ : Jb)).1 32 (0, 0)) := by
    have := alloc_new ((w5.setCell ⟨bw, 2, none⟩ (.int .i64 (T.g + 1))).setCell ⟨bw, 3, none⟩ (.int .i64 (T.o + 1))) (.cells #[.int .i64 (x.f0 - 1), .int .i64 (x.f1 - 1), .int .i64 x.f2, .int .i64 x.f3] 32)
    rw [← hW6] at this
    rw [hjb]
    rw [HY0.out]
    simpa using this
  have hqn : ¬ q = bw := by omega
  have hgn : ¬ g = bw := by omega
  have hq6 := HQ5.out.chg X6 hqn hgn
  have hjq : jb ≠ q := by omega
  have hjg : jb ≠ g := by omega
  have hjb3 : bw + 3 ≤ jb := by omega
  have HJ6 := Lib.hid hj6
  have HQ6 := Lib.hid hq6
  clear hW6 X6 hj6 hq6 HX5 HQ5 t0 t1 t2 t3 t4 t5 t6 t7 u0 u1 u2 u3 u4 u5 u6 u7 hq5 hg5 hs5' hjb hbw5
  rw [← HY0.out]
  refine (jput_ok q g n cap 0 (r.length + 1) 8 0 rs (⟨y0, x.f1 - 1, x.f2, x.f3⟩ : Jb) W6 HQ6.out (by omega)).mono ?_
  rintro e w7 ⟨rfl, hq7, hc7⟩
  rw [Nat.add_zero, Nat.zero_mod] at hq7
  have hx7 := HX6.out.chg hc7 (fun k s => s.elim (fun e => by rw [e]; exact hqb) (fun e => by rw [e]; exact hgb))
  have hj7 := hc7.heap HJ6.out (fun s => s.elim (fun e => hjq e) (fun e => hjg e))
  obtain ⟨j0, j1, j2, j3⟩ := box_cells (x := (⟨y0, x.f1 - 1, x.f2, x.f3⟩ : Jb)) hj7
  dsimp only at j0 j1 j2 j3
  have HX7 := Lib.hid hx7
  have HQ7 := Lib.hid hq7
  have HJ7 := Lib.hid hj7
  clear hc7 hq7 hx7 hj7 HX6 HQ6 HJ6
  obtain ⟨t0, t1, t2, t3, t4, t5, t6, t7⟩ := HX7.out.t8 (T := ⟨T.p, T.js, T.g + 1, T.o + 1, T.l, T.d, T.c, T.t⟩) (b := bw) 0 rfl rfl
  obtain ⟨u0, u1, u2, u3, u4, u5, u6, u7⟩ := HX7.out.f8 (b := bw) 0 rfl rfl
  go_wp2_with fail
  obtain ⟨W8, hW8⟩ : ∃ y, y = w7.setCell ⟨bw, 5, none⟩ (.int .i64 (T.d + 1)) := ⟨_, rfl⟩
  rw [← hW8]
  have X8 : Chg (fun k => k = bw) w7 W8 := by rw [hW8]; exact (Chg.refl (fun k => k = bw) w7).setCell _ _ rfl
  have HX8 : Hid (BX bw w W8 [Tk.cs ⟨T.p, T.js, T.g + 1, T.o + 1, T.l, T.d + 1, T.c, T.t⟩ v, zT.cs nilS, zT.cs nilS]) := by
    rw [hW8]
    exact Lib.hid (HX7.out.set 0 5 (.int .i64 (T.d + 1)) (c := Tk.cs ⟨T.p, T.js, T.g + 1, T.o + 1, T.l, T.d, T.c, T.t⟩ v) rfl)
  have HQ8 := Lib.hid (HQ7.out.chg X8 hqn hgn)
  have HJ8 := Lib.hid (X8.heap HJ7.out (by show ¬ jb = bw; omega))
  clear hW8 X8 HX7 HQ7 HJ7 t0 t1 t2 t3 t4 t5 t6 t7 u0 u1 u2 u3 u4 u5 u6 u7 j0 j1 j2 j3
  refine (jpop_ok q g n cap 0 (r.length + 1) 8 (rs.set 0 (⟨y0, x.f1 - 1, x.f2, x.f3⟩ : Jb)) (⟨y0, x.f1 - 1, x.f2, x.f3⟩ : Jb) W8 HQ8.out (by omega) (by rw [List.getElem?_set_self (by have := (List.getElem?_eq_some_iff.1 HR0.out).1; omega)])).mono ?_
  rintro e w9 ⟨rfl, hq9, hc9⟩
  have hx9 := HX8.out.chg hc9 (fun k s => s.elim (fun e => by rw [e]; exact hqb) (fun e => by rw [e]; exact hgb))
  have hj9 := hc9.heap HJ8.out (fun s => s.elim (fun e => hjq e) (fun e => hjg e))
  obtain ⟨j0, j1, j2, j3⟩ := box_cells (x := (⟨y0, x.f1 - 1, x.f2, x.f3⟩ : Jb)) hj9
  dsimp only at j0 j1 j2 j3
  obtain ⟨t0, t1, t2, t3, t4, t5, t6, t7⟩ := hx9.t8 (T := ⟨T.p, T.js, T.g + 1, T.o + 1, T.l, T.d + 1, T.c, T.t⟩) (b := bw) 0 rfl rfl
  obtain ⟨u0, u1, u2, u3, u4, u5, u6, u7⟩ := hx9.f8 (b := bw) 0 rfl rfl
  have HX9 := Lib.hid hx9
  have HQ9 := Lib.hid hq9
  clear hc9 hq9 hx9 hj9 HX8 HQ8 HJ8
  have HL := Lib.hid (jlist_some q g n cap ((0 + 1) % n) (r.length + 1 - 1) 8 ((rs.set 0 (⟨y0, x.f1 - 1, x.f2, x.f3⟩ : Jb)).set 0 zJ) w9 HQ9.out)
  rw [HR2.out] at HL
  go_wp2_with fail
  refine HL.out.mono ?_
  rintro e wZ ⟨v', rfl, hR, hb⟩
  obtain ⟨AZ, cZ, rfl⟩ := Kd.R_slice hR
  have hxZ := HX9.out.call hb
  have hR3 : kJ.R 32 wZ bw (fun k => bw + 3 ≤ k) (.slice AZ (r).length cZ) (r) := by
    have := Kd.R_lower hR (base' := bw + 3) (HX9.out.size (by simp))
    have k := Kd.R_mono (Kd.R_bound this) (ok' := fun k => bw + 3 ≤ k) (fun k hk => hk.2.1)
    exact Kd.R_lower k (by omega)
  have HRZ := Lib.hid hR3
  obtain ⟨t0, t1, t2, t3, t4, t5, t6, t7⟩ := hxZ.t8 (T := ⟨T.p, T.js, T.g + 1, T.o + 1, T.l, T.d + 1, T.c, T.t⟩) (b := bw) 0 rfl rfl
  obtain ⟨u0, u1, u2, u3, u4, u5, u6, u7⟩ := hxZ.f8 (b := bw) 0 rfl rfl
  obtain ⟨r0, r1, r2, r3, r4, r5, r6, r7⟩ := hxZ.t8 (T := zT) (b := bw + 1) 1 rfl rfl
  obtain ⟨f0, f1, f2, f3, f4, f5, f6, f7⟩ := hxZ.f8 (b := bw + 1) 1 rfl rfl
  have HXZ := Lib.hid hxZ
  clear hb hR hR3 hxZ HL HX9
  go_wp2
  refine bodyPost_ret (v := .tuple #[Tk.v ⟨T.p, r, T.g + 1, T.o + 1, T.l, T.d + 1, T.c, T.t⟩ (.slice AZ (r).length cZ), .int .i64 1, .int .i64 0, .nilIface]) (by simp [results, Try.results35, go_sem, r0, r1, r2, r3, r4, r5, r6, r7]) rfl ⟨_, rfl, ?_, ?_⟩
  · rw [hbw]
    refine Kd.R_mono (Kd.R_step HRZ.out (fun k hk hlt => ?_)) (fun _ _ => trivial)
    have hk' : bw + 3 ≤ k := hk
    have m1 : k ≠ bw := by omega
    have m2 : k ≠ bw + 1 := by omega
    rw [Below.heap_setCell _ _ _ _ m2, Below.heap_setCell _ _ _ _ m2, Below.heap_setCell _ _ _ _ m2, Below.heap_setCell _ _ _ _ m2, Below.heap_setCell _ _ _ _ m2, Below.heap_setCell _ _ _ _ m2, Below.heap_setCell _ _ _ _ m2, Below.heap_setCell _ _ _ _ m2, Below.heap_setCell _ _ _ _ m1]
  · rw [hbw]
    exact below_set8 (HXZ.out.be.setCell (p := ⟨bw, 1, none⟩) (Nat.le_refl _) _) (by omega) _ _ _ _ _ _ _ _
set_option maxHeartbeats 4000000 in
theorem trun_d2i (T : Tk) (v : Value) (now : Int) (w : World) (h : TR w v T.js) (x : Jb) (r : List Jb) (hxr : T.js = x :: r) (hk : T.okB = true) (hn : decide (0 ≤ now ∧ now ≤ 1073741823) = true) (hj : decide (0 < T.js.length) = true) (hg : (T.g == 1073741824) = false) (b1 : 0 ≤ T.g) (b2 : T.g ≤ 1073741824) (b3 : 0 ≤ T.o) (b4 : T.o ≤ 1073741824) (d1 : 0 ≤ T.d) (d2 : T.d ≤ 1073741824) (k1 : 0 ≤ T.c) (k2 : T.c ≤ 1073741824) (l1 : 0 ≤ T.t) (l2 : T.t ≤ 2147483648) (n0 : 0 ≤ now) (n1 : now ≤ 1073741823) (x0 : 1 ≤ x.f0) (x0' : x.f0 ≤ 1048576) (x1 : 0 ≤ x.f1) (x1' : x.f1 ≤ 1048576) (x2 : 0 ≤ x.f2) (x2' : x.f2 ≤ 1073741824) (x3 : 0 ≤ x.f3) (x3' : x.f3 ≤ 1073741824) (c1 : (x.f1 == 1) = true) (c1' : decide (0 < x.f1) = true) (y0 : Int) (hy0 : y0 = x.f0 - 1) (e0 : (y0 == 0) = true) (s1 : decide (0 < x.f3) = true) (ov : Int) (hov : ov = now + 1 - x.f2 - x.f3) (s2 : decide (0 < ov) = false) :
    Calls Try.prog 35 #[T.v v, .int .i64 now] w fun e w' => ∃ v', e = .returned (.tuple #[Tk.v ⟨T.p, r, T.g + 1, T.o + 1, T.l, T.d + 1, T.c, T.t⟩ v', .int .i64 1, .int .i64 0, .nilIface]) ∧ kJ.R 32 w' w.heap.size (fun _ => True) v' (Tk.js ⟨T.p, r, T.g + 1, T.o + 1, T.l, T.d + 1, T.c, T.t⟩) ∧ Below w.heap.size w w' := by
  have HN := Lib.hid hn
  have HJ := Lib.hid hj
  have HXR := Lib.hid hxr
  have HY0 := Lib.hid hy0
  have HOV := Lib.hid hov
  clear hov
  clear hn hj hxr hy0
  obtain ⟨W0, hW0⟩ : ∃ y, y = ((w.alloc (.cells #[.int .i64 T.p, v, .int .i64 T.g, .int .i64 T.o, .int .i64 T.l, .int .i64 T.d, .int .i64 T.c, .int .i64 T.t] 56)).alloc (.cells #[.int .i64 0, .slice none 0 0, .int .i64 0, .int .i64 0, .int .i64 0, .int .i64 0, .int .i64 0, .int .i64 0] 56)).alloc (.cells #[.int .i64 0, .slice none 0 0, .int .i64 0, .int .i64 0, .int .i64 0, .int .i64 0, .int .i64 0, .int .i64 0] 56) := ⟨_, rfl⟩
  have hx : BX w.heap.size w W0 [T.cs v, zT.cs nilS, zT.cs nilS] := by rw [hW0]; exact BX.new w [T.cs v, zT.cs nilS, zT.cs nilS]
  have HX := Lib.hid hx
  have HW0 := Lib.hid hW0
  have HR := Lib.hid h
  have HK := Lib.hid hk
  clear h hx hW0 hk
  go_enter Try.func35, Try.ntmps35
  go_wp2_with fail
  rw [← HW0.out]
  generalize hbw : w.heap.size = bw at *
  refine (tvalid_yes T v W0 (HR.out.below (by rw [hbw]; exact HX.out.be)) HK.out).mono ?_
  rintro e w1 ⟨rfl, hb⟩
  have HX1 := Lib.hid (HX.out.call hb)
  clear hb HX
  go_wp2_with fail
  refine (is_c now 0 1073741823 true HN.out w1).mono ?_
  rintro e w2 ⟨rfl, hb⟩
  have HX2 := Lib.hid (HX1.out.call hb)
  clear hb HX1
  obtain ⟨t0, t1, t2, t3, t4, t5, t6, t7⟩ := HX2.out.t8 (T := T) (b := bw) 0 rfl rfl
  go_wp2_with fail
  refine (tready_c T v true w2 (HR.out.below (by rw [hbw]; exact HX2.out.be)) HJ.out).mono ?_
  rintro e w3 ⟨rfl, hb⟩
  have HX3 := Lib.hid (HX2.out.call hb)
  clear hb HX2 t0 t1 t2 t3 t4 t5 t6 t7
  obtain ⟨t0, t1, t2, t3, t4, t5, t6, t7⟩ := HX3.out.t8 (T := T) (b := bw) 0 rfl rfl
  have hsz3 := HX3.out.size (by simp)
  go_wp2_with fail
  refine (queue_ok T v w3 (HR.out.below (by rw [hbw]; exact HX3.out.be)) (Tk.ok_len HK.out)).mono ?_
  rintro e w4 ⟨q, rfl, hQ⟩
  obtain ⟨S, hJ, hS, hb⟩ := hQ
  rw [HXR.out] at hJ
  obtain ⟨g, n, cap, rs, hq, hSq, hSg, hSl, hr0, hr1, hr2⟩ := hJ.ring
  have HX4 := Lib.hid (HX3.out.call hb)
  have hqb : bw + 3 ≤ q := Nat.le_trans hsz3 (hS q hSq)
  have hgb : bw + 3 ≤ g := Nat.le_trans hsz3 (hS g hSg)
  have HQ4 := Lib.hid hq
  have HR0 := Lib.hid hr0
  have HR1 := Lib.hid hr1
  have HR2 := Lib.hid hr2
  clear hb t0 t1 t2 t3 t4 t5 t6 t7 HX3 hJ hS hsz3 hSq hSg hSl hq hr0 hr1 hr2
  go_wp2_with fail
  refine (jhead_ok q g n cap 0 (r.length + 1) 8 rs x w4 HQ4.out (by omega) HR0.out).mono ?_
  rintro e w5 ⟨rfl, hb⟩
  have HX5 := Lib.hid (HX4.out.call hb)
  have HQ5 := Lib.hid (HQ4.out.below hb)
  have hq5 : q < w5.heap.size := HQ5.out.lt
  have hg5 : g < w5.heap.size := HQ5.out.ltg
  have hs5 := HX5.out.size (by simp)
  have hs5' : bw + 3 ≤ w5.heap.size := hs5
  obtain ⟨t0, t1, t2, t3, t4, t5, t6, t7⟩ := HX5.out.t8 (T := T) (b := bw) 0 rfl rfl
  obtain ⟨u0, u1, u2, u3, u4, u5, u6, u7⟩ := HX5.out.f8 (b := bw) 0 rfl rfl
  have hbw5 : bw < w5.heap.size := by omega
  clear hb HX4 HQ4 hs5
  go_wp2_with fail
  obtain ⟨W6, hW6⟩ : ∃ y, y = ((w5.setCell ⟨bw, 2, none⟩ (.int .i64 (T.g + 1))).setCell ⟨bw, 3, none⟩ (.int .i64 (T.o + 1))).alloc (.cells #[.int .i64 (x.f0 - 1), .int .i64 (x.f1 - 1), .int .i64 x.f2, .int .i64 x.f3] 32) := ⟨_, rfl⟩
  rw [← hW6]
  obtain ⟨jb, hjb⟩ : ∃ b, b = w5.heap.size := ⟨_, rfl⟩
  rw [← hjb]
  have X6 : Chg (fun k => k = bw) w5 W6 := by rw [hW6]; exact (((Chg.refl (fun k => k = bw) w5).setCell _ _ rfl).setCell _ _ rfl).alloc _
  have HX6 : Hid (BX bw w W6 [Tk.cs ⟨T.p, T.js, T.g + 1, T.o + 1, T.l, T.d, T.c, T.t⟩ v, zT.cs nilS, zT.cs nilS]) := by
    rw [hW6]
    exact Lib.hid (((HX5.out.set 0 2 (.int .i64 (T.g + 1)) (c := T.cs v) rfl).set 0 3 (.int .i64 (T.o + 1)) rfl).alloc _)
  have hj6 : W6.heap[jb]? = some (.cells (jcs (⟨y0, x.f1 - 1, x.f2, x.f3⟩ : Jb)).1 32 (0, 0)) := by
    have := alloc_new ((w5.setCell ⟨bw, 2, none⟩ (.int .i64 (T.g + 1))).setCell ⟨bw, 3, none⟩ (.int .i64 (T.o + 1))) (.cells #[.int .i64 (x.f0 - 1), .int .i64 (x.f1 - 1), .int .i64 x.f2, .int .i64 x.f3] 32)
    rw [← hW6] at this
    rw [hjb]
    rw [HY0.out]
    simpa using this
  have hqn : ¬ q = bw := by omega
  have hgn : ¬ g = bw := by omega
  have hq6 := HQ5.out.chg X6 hqn hgn
  have hjq : jb ≠ q := by omega
  have hjg : jb ≠ g := by omega
  have hjb3 : bw + 3 ≤ jb := by omega
  have HJ6 := Lib.hid hj6
  have HQ6 := Lib.hid hq6
  clear hW6 X6 hj6 hq6 HX5 HQ5 t0 t1 t2 t3 t4 t5 t6 t7 u0 u1 u2 u3 u4 u5 u6 u7 hq5 hg5 hs5' hjb hbw5
  rw [← HY0.out]
  refine (jput_ok q g n cap 0 (r.length + 1) 8 0 rs (⟨y0, x.f1 - 1, x.f2, x.f3⟩ : Jb) W6 HQ6.out (by omega)).mono ?_
  rintro e w7 ⟨rfl, hq7, hc7⟩
  rw [Nat.add_zero, Nat.zero_mod] at hq7
  have hx7 := HX6.out.chg hc7 (fun k s => s.elim (fun e => by rw [e]; exact hqb) (fun e => by rw [e]; exact hgb))
  have hj7 := hc7.heap HJ6.out (fun s => s.elim (fun e => hjq e) (fun e => hjg e))
  obtain ⟨j0, j1, j2, j3⟩ := box_cells (x := (⟨y0, x.f1 - 1, x.f2, x.f3⟩ : Jb)) hj7
  dsimp only at j0 j1 j2 j3
  have HX7 := Lib.hid hx7
  have HQ7 := Lib.hid hq7
  have HJ7 := Lib.hid hj7
  clear hc7 hq7 hx7 hj7 HX6 HQ6 HJ6
  obtain ⟨t0, t1, t2, t3, t4, t5, t6, t7⟩ := HX7.out.t8 (T := ⟨T.p, T.js, T.g + 1, T.o + 1, T.l, T.d, T.c, T.t⟩) (b := bw) 0 rfl rfl
  obtain ⟨u0, u1, u2, u3, u4, u5, u6, u7⟩ := HX7.out.f8 (b := bw) 0 rfl rfl
  go_wp2_with fail
  obtain ⟨W8, hW8⟩ : ∃ y, y = w7.setCell ⟨bw, 5, none⟩ (.int .i64 (T.d + 1)) := ⟨_, rfl⟩
  rw [← hW8]
  have X8 : Chg (fun k => k = bw) w7 W8 := by rw [hW8]; exact (Chg.refl (fun k => k = bw) w7).setCell _ _ rfl
  have HX8 : Hid (BX bw w W8 [Tk.cs ⟨T.p, T.js, T.g + 1, T.o + 1, T.l, T.d + 1, T.c, T.t⟩ v, zT.cs nilS, zT.cs nilS]) := by
    rw [hW8]
    exact Lib.hid (HX7.out.set 0 5 (.int .i64 (T.d + 1)) (c := Tk.cs ⟨T.p, T.js, T.g + 1, T.o + 1, T.l, T.d, T.c, T.t⟩ v) rfl)
  have HQ8 := Lib.hid (HQ7.out.chg X8 hqn hgn)
  have HJ8 := Lib.hid (X8.heap HJ7.out (by show ¬ jb = bw; omega))
  clear hW8 X8 HX7 HQ7 HJ7 t0 t1 t2 t3 t4 t5 t6 t7 u0 u1 u2 u3 u4 u5 u6 u7 j0 j1 j2 j3
  refine (jpop_ok q g n cap 0 (r.length + 1) 8 (rs.set 0 (⟨y0, x.f1 - 1, x.f2, x.f3⟩ : Jb)) (⟨y0, x.f1 - 1, x.f2, x.f3⟩ : Jb) W8 HQ8.out (by omega) (by rw [List.getElem?_set_self (by have := (List.getElem?_eq_some_iff.1 HR0.out).1; omega)])).mono ?_
  rintro e w9 ⟨rfl, hq9, hc9⟩
  have hx9 := HX8.out.chg hc9 (fun k s => s.elim (fun e => by rw [e]; exact hqb) (fun e => by rw [e]; exact hgb))
  have hj9 := hc9.heap HJ8.out (fun s => s.elim (fun e => hjq e) (fun e => hjg e))
  obtain ⟨j0, j1, j2, j3⟩ := box_cells (x := (⟨y0, x.f1 - 1, x.f2, x.f3⟩ : Jb)) hj9
  dsimp only at j0 j1 j2 j3
  obtain ⟨t0, t1, t2, t3, t4, t5, t6, t7⟩ := hx9.t8 (T := ⟨T.p, T.js, T.g + 1, T.o + 1, T.l, T.d + 1, T.c, T.t⟩) (b := bw) 0 rfl rfl
  obtain ⟨u0, u1, u2, u3, u4, u5, u6, u7⟩ := hx9.f8 (b := bw) 0 rfl rfl
  have HX9 := Lib.hid hx9
  have HQ9 := Lib.hid hq9
  clear hc9 hq9 hx9 hj9 HX8 HQ8 HJ8
  have sv : now + 1 - x.f2 - x.f3 = ov := HOV.out.symm
  have HL := Lib.hid (jlist_some q g n cap ((0 + 1) % n) (r.length + 1 - 1) 8 ((rs.set 0 (⟨y0, x.f1 - 1, x.f2, x.f3⟩ : Jb)).set 0 zJ) w9 HQ9.out)
  rw [HR2.out] at HL
  go_wp2_with fail
  refine HL.out.mono ?_
  rintro e wZ ⟨v', rfl, hR, hb⟩
  obtain ⟨AZ, cZ, rfl⟩ := Kd.R_slice hR
  have hxZ := HX9.out.call hb
  have hR3 : kJ.R 32 wZ bw (fun k => bw + 3 ≤ k) (.slice AZ (r).length cZ) (r) := by
    have := Kd.R_lower hR (base' := bw + 3) (HX9.out.size (by simp))
    have k := Kd.R_mono (Kd.R_bound this) (ok' := fun k => bw + 3 ≤ k) (fun k hk => hk.2.1)
    exact Kd.R_lower k (by omega)
  have HRZ := Lib.hid hR3
  obtain ⟨t0, t1, t2, t3, t4, t5, t6, t7⟩ := hxZ.t8 (T := ⟨T.p, T.js, T.g + 1, T.o + 1, T.l, T.d + 1, T.c, T.t⟩) (b := bw) 0 rfl rfl
  obtain ⟨u0, u1, u2, u3, u4, u5, u6, u7⟩ := hxZ.f8 (b := bw) 0 rfl rfl
  obtain ⟨r0, r1, r2, r3, r4, r5, r6, r7⟩ := hxZ.t8 (T := zT) (b := bw + 1) 1 rfl rfl
  obtain ⟨f0, f1, f2, f3, f4, f5, f6, f7⟩ := hxZ.f8 (b := bw + 1) 1 rfl rfl
  have HXZ := Lib.hid hxZ
  clear hb hR hR3 hxZ HL HX9
  go_wp2
  refine bodyPost_ret (v := .tuple #[Tk.v ⟨T.p, r, T.g + 1, T.o + 1, T.l, T.d + 1, T.c, T.t⟩ (.slice AZ (r).length cZ), .int .i64 1, .int .i64 0, .nilIface]) (by simp [results, Try.results35, go_sem, r0, r1, r2, r3, r4, r5, r6, r7]) rfl ⟨_, rfl, ?_, ?_⟩
  · rw [hbw]
    refine Kd.R_mono (Kd.R_step HRZ.out (fun k hk hlt => ?_)) (fun _ _ => trivial)
    have hk' : bw + 3 ≤ k := hk
    have m1 : k ≠ bw := by omega
    have m2 : k ≠ bw + 1 := by omega
    rw [Below.heap_setCell _ _ _ _ m2, Below.heap_setCell _ _ _ _ m2, Below.heap_setCell _ _ _ _ m2, Below.heap_setCell _ _ _ _ m2, Below.heap_setCell _ _ _ _ m2, Below.heap_setCell _ _ _ _ m2, Below.heap_setCell _ _ _ _ m2, Below.heap_setCell _ _ _ _ m2, Below.heap_setCell _ _ _ _ m1]
  · rw [hbw]
    exact below_set8 (HXZ.out.be.setCell (p := ⟨bw, 1, none⟩) (Nat.le_refl _) _) (by omega) _ _ _ _ _ _ _ _
set_option maxHeartbeats 4000000 in
theorem trun_d2l (T : Tk) (v : Value) (now : Int) (w : World) (h : TR w v T.js) (x : Jb) (r : List Jb) (hxr : T.js = x :: r) (hk : T.okB = true) (hn : decide (0 ≤ now ∧ now ≤ 1073741823) = true) (hj : decide (0 < T.js.length) = true) (hg : (T.g == 1073741824) = false) (b1 : 0 ≤ T.g) (b2 : T.g ≤ 1073741824) (b3 : 0 ≤ T.o) (b4 : T.o ≤ 1073741824) (d1 : 0 ≤ T.d) (d2 : T.d ≤ 1073741824) (k1 : 0 ≤ T.c) (k2 : T.c ≤ 1073741824) (l1 : 0 ≤ T.t) (l2 : T.t ≤ 2147483648) (n0 : 0 ≤ now) (n1 : now ≤ 1073741823) (x0 : 1 ≤ x.f0) (x0' : x.f0 ≤ 1048576) (x1 : 0 ≤ x.f1) (x1' : x.f1 ≤ 1048576) (x2 : 0 ≤ x.f2) (x2' : x.f2 ≤ 1073741824) (x3 : 0 ≤ x.f3) (x3' : x.f3 ≤ 1073741824) (c1 : (x.f1 == 1) = true) (c1' : decide (0 < x.f1) = true) (y0 : Int) (hy0 : y0 = x.f0 - 1) (e0 : (y0 == 0) = true) (s1 : decide (0 < x.f3) = true) (ov : Int) (hov : ov = now + 1 - x.f2 - x.f3) (s2 : decide (0 < ov) = true) :
    Calls Try.prog 35 #[T.v v, .int .i64 now] w fun e w' => ∃ v', e = .returned (.tuple #[Tk.v ⟨T.p, r, T.g + 1, T.o + 1, T.l, T.d + 1, T.c, T.t + 1⟩ v', .int .i64 1, .int .i64 ov, .nilIface]) ∧ kJ.R 32 w' w.heap.size (fun _ => True) v' (Tk.js ⟨T.p, r, T.g + 1, T.o + 1, T.l, T.d + 1, T.c, T.t + 1⟩) ∧ Below w.heap.size w w' := by
  have HN := Lib.hid hn
  have HJ := Lib.hid hj
  have HXR := Lib.hid hxr
  have HY0 := Lib.hid hy0
  have HOV := Lib.hid hov
  clear hov
  clear hn hj hxr hy0
  obtain ⟨W0, hW0⟩ : ∃ y, y = ((w.alloc (.cells #[.int .i64 T.p, v, .int .i64 T.g, .int .i64 T.o, .int .i64 T.l, .int .i64 T.d, .int .i64 T.c, .int .i64 T.t] 56)).alloc (.cells #[.int .i64 0, .slice none 0 0, .int .i64 0, .int .i64 0, .int .i64 0, .int .i64 0, .int .i64 0, .int .i64 0] 56)).alloc (.cells #[.int .i64 0, .slice none 0 0, .int .i64 0, .int .i64 0, .int .i64 0, .int .i64 0, .int .i64 0, .int .i64 0] 56) := ⟨_, rfl⟩
  have hx : BX w.heap.size w W0 [T.cs v, zT.cs nilS, zT.cs nilS] := by rw [hW0]; exact BX.new w [T.cs v, zT.cs nilS, zT.cs nilS]
  have HX := Lib.hid hx
  have HW0 := Lib.hid hW0
  have HR := Lib.hid h
  have HK := Lib.hid hk
  clear h hx hW0 hk
  go_enter Try.func35, Try.ntmps35
  go_wp2_with fail
  rw [← HW0.out]
  generalize hbw : w.heap.size = bw at *
  refine (tvalid_yes T v W0 (HR.out.below (by rw [hbw]; exact HX.out.be)) HK.out).mono ?_
  rintro e w1 ⟨rfl, hb⟩
  have HX1 := Lib.hid (HX.out.call hb)
  clear hb HX
  go_wp2_with fail
  refine (is_c now 0 1073741823 true HN.out w1).mono ?_
  rintro e w2 ⟨rfl, hb⟩
  have HX2 := Lib.hid (HX1.out.call hb)
  clear hb HX1
  obtain ⟨t0, t1, t2, t3, t4, t5, t6, t7⟩ := HX2.out.t8 (T := T) (b := bw) 0 rfl rfl
  go_wp2_with fail
  refine (tready_c T v true w2 (HR.out.below (by rw [hbw]; exact HX2.out.be)) HJ.out).mono ?_
  rintro e w3 ⟨rfl, hb⟩
  have HX3 := Lib.hid (HX2.out.call hb)
  clear hb HX2 t0 t1 t2 t3 t4 t5 t6 t7
  obtain ⟨t0, t1, t2, t3, t4, t5, t6, t7⟩ := HX3.out.t8 (T := T) (b := bw) 0 rfl rfl
  have hsz3 := HX3.out.size (by simp)
  go_wp2_with fail
  refine (queue_ok T v w3 (HR.out.below (by rw [hbw]; exact HX3.out.be)) (Tk.ok_len HK.out)).mono ?_
  rintro e w4 ⟨q, rfl, hQ⟩
  obtain ⟨S, hJ, hS, hb⟩ := hQ
  rw [HXR.out] at hJ
  obtain ⟨g, n, cap, rs, hq, hSq, hSg, hSl, hr0, hr1, hr2⟩ := hJ.ring
  have HX4 := Lib.hid (HX3.out.call hb)
  have hqb : bw + 3 ≤ q := Nat.le_trans hsz3 (hS q hSq)
  have hgb : bw + 3 ≤ g := Nat.le_trans hsz3 (hS g hSg)
  have HQ4 := Lib.hid hq
  have HR0 := Lib.hid hr0
  have HR1 := Lib.hid hr1
  have HR2 := Lib.hid hr2
  clear hb t0 t1 t2 t3 t4 t5 t6 t7 HX3 hJ hS hsz3 hSq hSg hSl hq hr0 hr1 hr2
  go_wp2_with fail
  refine (jhead_ok q g n cap 0 (r.length + 1) 8 rs x w4 HQ4.out (by omega) HR0.out).mono ?_
  rintro e w5 ⟨rfl, hb⟩
  have HX5 := Lib.hid (HX4.out.call hb)
  have HQ5 := Lib.hid (HQ4.out.below hb)
  have hq5 : q < w5.heap.size := HQ5.out.lt
  have hg5 : g < w5.heap.size := HQ5.out.ltg
  have hs5 := HX5.out.size (by simp)
  have hs5' : bw + 3 ≤ w5.heap.size := hs5
  obtain ⟨t0, t1, t2, t3, t4, t5, t6, t7⟩ := HX5.out.t8 (T := T) (b := bw) 0 rfl rfl
  obtain ⟨u0, u1, u2, u3, u4, u5, u6, u7⟩ := HX5.out.f8 (b := bw) 0 rfl rfl
  have hbw5 : bw < w5.heap.size := by omega
  clear hb HX4 HQ4 hs5
  go_wp2_with fail
  obtain ⟨W6, hW6⟩ : ∃ y, y = ((w5.setCell ⟨bw, 2, none⟩ (.int .i64 (T.g + 1))).setCell ⟨bw, 3, none⟩ (.int .i64 (T.o + 1))).alloc (.cells #[.int .i64 (x.f0 - 1), .int .i64 (x.f1 - 1), .int .i64 x.f2, .int .i64 x.f3] 32) := ⟨_, rfl⟩
  rw [← hW6]
  obtain ⟨jb, hjb⟩ : ∃ b, b = w5.heap.size := ⟨_, rfl⟩
  rw [← hjb]
  have X6 : Chg (fun k => k = bw) w5 W6 := by rw [hW6]; exact (((Chg.refl (fun k => k = bw) w5).setCell _ _ rfl).setCell _ _ rfl).alloc _
  have HX6 : Hid (BX bw w W6 [Tk.cs ⟨T.p, T.js, T.g + 1, T.o + 1, T.l, T.d, T.c, T.t⟩ v, zT.cs nilS, zT.cs nilS]) := by
    rw [hW6]
    exact Lib.hid (((HX5.out.set 0 2 (.int .i64 (T.g + 1)) (c := T.cs v) rfl).set 0 3 (.int .i64 (T.o + 1)) rfl).alloc _)
  have hj6 : W6.heap[jb]? = some (.cells (jcs (⟨y0, x.f1 - 1, x.f2, x.f3⟩ : Jb)).1 32 (0, 0)) := by
    have := alloc_new ((w5.setCell ⟨bw, 2, none⟩ (.int .i64 (T.g + 1))).setCell ⟨bw, 3, none⟩ (.int .i64 (T.o + 1))) (.cells #[.int .i64 (x.f0 - 1), .int .i64 (x.f1 - 1), .int .i64 x.f2, .int .i64 x.f3] 32)
    rw [← hW6] at this
    rw [hjb]
    rw [HY0.out]
    simpa using this
  have hqn : ¬ q = bw := by omega
  have hgn : ¬ g = bw := by omega
  have hq6 := HQ5.out.chg X6 hqn hgn
  have hjq : jb ≠ q := by omega
  have hjg : jb ≠ g := by omega
  have hjb3 : bw + 3 ≤ jb := by omega
  have HJ6 := Lib.hid hj6
  have HQ6 := Lib.hid hq6
  clear hW6 X6 hj6 hq6 HX5 HQ5 t0 t1 t2 t3 t4 t5 t6 t7 u0 u1 u2 u3 u4 u5 u6 u7 hq5 hg5 hs5' hjb hbw5
  rw [← HY0.out]
  refine (jput_ok q g n cap 0 (r.length + 1) 8 0 rs (⟨y0, x.f1 - 1, x.f2, x.f3⟩ : Jb) W6 HQ6.out (by omega)).mono ?_
  rintro e w7 ⟨rfl, hq7, hc7⟩
  rw [Nat.add_zero, Nat.zero_mod] at hq7
  have hx7 := HX6.out.chg hc7 (fun k s => s.elim (fun e => by rw [e]; exact hqb) (fun e => by rw [e]; exact hgb))
  have hj7 := hc7.heap HJ6.out (fun s => s.elim (fun e => hjq e) (fun e => hjg e))
  obtain ⟨j0, j1, j2, j3⟩ := box_cells (x := (⟨y0, x.f1 - 1, x.f2, x.f3⟩ : Jb)) hj7
  dsimp only at j0 j1 j2 j3
  have HX7 := Lib.hid hx7
  have HQ7 := Lib.hid hq7
  have HJ7 := Lib.hid hj7
  clear hc7 hq7 hx7 hj7 HX6 HQ6 HJ6
  obtain ⟨t0, t1, t2, t3, t4, t5, t6, t7⟩ := HX7.out.t8 (T := ⟨T.p, T.js, T.g + 1, T.o + 1, T.l, T.d, T.c, T.t⟩) (b := bw) 0 rfl rfl
  obtain ⟨u0, u1, u2, u3, u4, u5, u6, u7⟩ := HX7.out.f8 (b := bw) 0 rfl rfl
  go_wp2_with fail
  obtain ⟨W8, hW8⟩ : ∃ y, y = w7.setCell ⟨bw, 5, none⟩ (.int .i64 (T.d + 1)) := ⟨_, rfl⟩
  rw [← hW8]
  have X8 : Chg (fun k => k = bw) w7 W8 := by rw [hW8]; exact (Chg.refl (fun k => k = bw) w7).setCell _ _ rfl
  have HX8 : Hid (BX bw w W8 [Tk.cs ⟨T.p, T.js, T.g + 1, T.o + 1, T.l, T.d + 1, T.c, T.t⟩ v, zT.cs nilS, zT.cs nilS]) := by
    rw [hW8]
    exact Lib.hid (HX7.out.set 0 5 (.int .i64 (T.d + 1)) (c := Tk.cs ⟨T.p, T.js, T.g + 1, T.o + 1, T.l, T.d, T.c, T.t⟩ v) rfl)
  have HQ8 := Lib.hid (HQ7.out.chg X8 hqn hgn)
  have HJ8 := Lib.hid (X8.heap HJ7.out (by show ¬ jb = bw; omega))
  clear hW8 X8 HX7 HQ7 HJ7 t0 t1 t2 t3 t4 t5 t6 t7 u0 u1 u2 u3 u4 u5 u6 u7 j0 j1 j2 j3
  refine (jpop_ok q g n cap 0 (r.length + 1) 8 (rs.set 0 (⟨y0, x.f1 - 1, x.f2, x.f3⟩ : Jb)) (⟨y0, x.f1 - 1, x.f2, x.f3⟩ : Jb) W8 HQ8.out (by omega) (by rw [List.getElem?_set_self (by have := (List.getElem?_eq_some_iff.1 HR0.out).1; omega)])).mono ?_
  rintro e w9 ⟨rfl, hq9, hc9⟩
  have hx9 := HX8.out.chg hc9 (fun k s => s.elim (fun e => by rw [e]; exact hqb) (fun e => by rw [e]; exact hgb))
  have hj9 := hc9.heap HJ8.out (fun s => s.elim (fun e => hjq e) (fun e => hjg e))
  obtain ⟨j0, j1, j2, j3⟩ := box_cells (x := (⟨y0, x.f1 - 1, x.f2, x.f3⟩ : Jb)) hj9
  dsimp only at j0 j1 j2 j3
  obtain ⟨t0, t1, t2, t3, t4, t5, t6, t7⟩ := hx9.t8 (T := ⟨T.p, T.js, T.g + 1, T.o + 1, T.l, T.d + 1, T.c, T.t⟩) (b := bw) 0 rfl rfl
  obtain ⟨u0, u1, u2, u3, u4, u5, u6, u7⟩ := hx9.f8 (b := bw) 0 rfl rfl
  have HX9 := Lib.hid hx9
  have HQ9 := Lib.hid hq9
  clear hc9 hq9 hx9 hj9 HX8 HQ8 HJ8
  have sv : now + 1 - x.f2 - x.f3 = ov := HOV.out.symm
  go_wp2_with fail
  obtain ⟨WA, hWA⟩ : ∃ y, y = w9.setCell ⟨bw, 7, none⟩ (.int .i64 (T.t + 1)) := ⟨_, rfl⟩
  rw [← hWA]
  have XA : Chg (fun k => k = bw) w9 WA := by rw [hWA]; exact (Chg.refl (fun k => k = bw) w9).setCell _ _ rfl
  have HXA : Hid (BX bw w WA [Tk.cs ⟨T.p, T.js, T.g + 1, T.o + 1, T.l, T.d + 1, T.c, T.t + 1⟩ v, zT.cs nilS, zT.cs nilS]) := by
    rw [hWA]
    exact Lib.hid (HX9.out.set 0 7 (.int .i64 (T.t + 1)) (c := Tk.cs ⟨T.p, T.js, T.g + 1, T.o + 1, T.l, T.d + 1, T.c, T.t⟩ v) rfl)
  have HQA := Lib.hid (HQ9.out.chg XA hqn hgn)
  clear hWA XA HX9 HQ9 t0 t1 t2 t3 t4 t5 t6 t7 u0 u1 u2 u3 u4 u5 u6 u7 j0 j1 j2 j3
  have HL := Lib.hid (jlist_some q g n cap ((0 + 1) % n) (r.length + 1 - 1) 8 ((rs.set 0 (⟨y0, x.f1 - 1, x.f2, x.f3⟩ : Jb)).set 0 zJ) WA HQA.out)
  rw [HR2.out] at HL
  refine HL.out.mono ?_
  rintro e wZ ⟨v', rfl, hR, hb⟩
  obtain ⟨AZ, cZ, rfl⟩ := Kd.R_slice hR
  have hxZ := HXA.out.call hb
  have hR3 : kJ.R 32 wZ bw (fun k => bw + 3 ≤ k) (.slice AZ (r).length cZ) (r) := by
    have := Kd.R_lower hR (base' := bw + 3) (HXA.out.size (by simp))
    have k := Kd.R_mono (Kd.R_bound this) (ok' := fun k => bw + 3 ≤ k) (fun k hk => hk.2.1)
    exact Kd.R_lower k (by omega)
  have HRZ := Lib.hid hR3
  obtain ⟨t0, t1, t2, t3, t4, t5, t6, t7⟩ := hxZ.t8 (T := ⟨T.p, T.js, T.g + 1, T.o + 1, T.l, T.d + 1, T.c, T.t + 1⟩) (b := bw) 0 rfl rfl
  obtain ⟨u0, u1, u2, u3, u4, u5, u6, u7⟩ := hxZ.f8 (b := bw) 0 rfl rfl
  obtain ⟨r0, r1, r2, r3, r4, r5, r6, r7⟩ := hxZ.t8 (T := zT) (b := bw + 1) 1 rfl rfl
  obtain ⟨f0, f1, f2, f3, f4, f5, f6, f7⟩ := hxZ.f8 (b := bw + 1) 1 rfl rfl
  have HXZ := Lib.hid hxZ
  clear hb hR hR3 hxZ HL HXA
  go_wp2
  refine bodyPost_ret (v := .tuple #[Tk.v ⟨T.p, r, T.g + 1, T.o + 1, T.l, T.d + 1, T.c, T.t + 1⟩ (.slice AZ (r).length cZ), .int .i64 1, .int .i64 ov, .nilIface]) (by simp [results, Try.results35, go_sem, r0, r1, r2, r3, r4, r5, r6, r7]) rfl ⟨_, rfl, ?_, ?_⟩
  · rw [hbw]
    refine Kd.R_mono (Kd.R_step HRZ.out (fun k hk hlt => ?_)) (fun _ _ => trivial)
    have hk' : bw + 3 ≤ k := hk
    have m1 : k ≠ bw := by omega
    have m2 : k ≠ bw + 1 := by omega
    rw [Below.heap_setCell _ _ _ _ m2, Below.heap_setCell _ _ _ _ m2, Below.heap_setCell _ _ _ _ m2, Below.heap_setCell _ _ _ _ m2, Below.heap_setCell _ _ _ _ m2, Below.heap_setCell _ _ _ _ m2, Below.heap_setCell _ _ _ _ m2, Below.heap_setCell _ _ _ _ m2, Below.heap_setCell _ _ _ _ m1]
  · rw [hbw]
    exact below_set8 (HXZ.out.be.setCell (p := ⟨bw, 1, none⟩) (Nat.le_refl _) _) (by omega) _ _ _ _ _ _ _ _

end Go.Proofs.Ytdilediiofenmaa

set_option linter.unusedVariables false
set_option linter.unusedSimpArgs false
namespace Go.Proofs.Ytdilediiofenmaa
open Go.RowKit
open Go.Proofs.YtdilediiofenmaaW.PrintWords (Kd Drawn0 Kept rd rdOf)
open Go.Proofs.Ytdilediiofenmaa.PSlackRuns
set_option maxRecDepth 100000

set_option maxHeartbeats 4000000 in
theorem trun_cn (T : Tk) (v : Value) (now : Int) (w : World) (h : TR w v T.js) (x : Jb) (r : List Jb) (hxr : T.js = x :: r) (hk : T.okB = true) (hn : decide (0 ≤ now ∧ now ≤ 1073741823) = true) (hj : decide (0 < T.js.length) = true) (hg : (T.g == 1073741824) = false) (b1 : 0 ≤ T.g) (b2 : T.g ≤ 1073741824) (b3 : 0 ≤ T.o) (b4 : T.o ≤ 1073741824) (d1 : 0 ≤ T.d) (d2 : T.d ≤ 1073741824) (k1 : 0 ≤ T.c) (k2 : T.c ≤ 1073741824) (l1 : 0 ≤ T.t) (l2 : T.t ≤ 2147483648) (n0 : 0 ≤ now) (n1 : now ≤ 1073741823) (x0 : 1 ≤ x.f0) (x0' : x.f0 ≤ 1048576) (x1 : 0 ≤ x.f1) (x1' : x.f1 ≤ 1048576) (x2 : 0 ≤ x.f2) (x2' : x.f2 ≤ 1073741824) (x3 : 0 ≤ x.f3) (x3' : x.f3 ≤ 1073741824) (c1 : (x.f1 == 1) = true) (c1' : decide (0 < x.f1) = true) (y0 : Int) (hy0 : y0 = x.f0 - 1) (e0 : (y0 == 0) = false) (s1 : decide (0 < x.f3) = false) :
    Calls Try.prog 35 #[T.v v, .int .i64 now] w fun e w' => ∃ v', e = .returned (.tuple #[Tk.v ⟨T.p, r, T.g + 1, T.o + 1, T.l, T.d, T.c + 1, T.t⟩ v', .int .i64 2, .int .i64 0, .nilIface]) ∧ kJ.R 32 w' w.heap.size (fun _ => True) v' (Tk.js ⟨T.p, r, T.g + 1, T.o + 1, T.l, T.d, T.c + 1, T.t⟩) ∧ Below w.heap.size w w' := by
  have HN := Lib.hid hn
  have HJ := Lib.hid hj
  have HXR := Lib.hid hxr
  have HY0 := Lib.hid hy0
  clear hn hj hxr hy0
  obtain ⟨W0, hW0⟩ : ∃ y, y = ((w.alloc (.cells #[.int .i64 T.p, v, .int .i64 T.g, .int .i64 T.o, .int .i64 T.l, .int .i64 T.d, .int .i64 T.c, .int .i64 T.t] 56)).alloc (.cells #[.int .i64 0, .slice none 0 0, .int .i64 0, .int .i64 0, .int .i64 0, .int .i64 0, .int .i64 0, .int .i64 0] 56)).alloc (.cells #[.int .i64 0, .slice none 0 0, .int .i64 0, .int .i64 0, .int .i64 0, .int .i64 0, .int .i64 0, .int .i64 0] 56) := ⟨_, rfl⟩
  have hx : BX w.heap.size w W0 [T.cs v, zT.cs nilS, zT.cs nilS] := by rw [hW0]; exact BX.new w [T.cs v, zT.cs nilS, zT.cs nilS]
  have HX := Lib.hid hx
  have HW0 := Lib.hid hW0
  have HR := Lib.hid h
  have HK := Lib.hid hk
  clear h hx hW0 hk
  go_enter Try.func35, Try.ntmps35
  go_wp2_with fail
  rw [← HW0.out]
  generalize hbw : w.heap.size = bw at *
  refine (tvalid_yes T v W0 (HR.out.below (by rw [hbw]; exact HX.out.be)) HK.out).mono ?_
  rintro e w1 ⟨rfl, hb⟩
  have HX1 := Lib.hid (HX.out.call hb)
  clear hb HX
  go_wp2_with fail
  refine (is_c now 0 1073741823 true HN.out w1).mono ?_
  rintro e w2 ⟨rfl, hb⟩
  have HX2 := Lib.hid (HX1.out.call hb)
  clear hb HX1
  obtain ⟨t0, t1, t2, t3, t4, t5, t6, t7⟩ := HX2.out.t8 (T := T) (b := bw) 0 rfl rfl
  go_wp2_with fail
  refine (tready_c T v true w2 (HR.out.below (by rw [hbw]; exact HX2.out.be)) HJ.out).mono ?_
  rintro e w3 ⟨rfl, hb⟩
  have HX3 := Lib.hid (HX2.out.call hb)
  clear hb HX2 t0 t1 t2 t3 t4 t5 t6 t7
  obtain ⟨t0, t1, t2, t3, t4, t5, t6, t7⟩ := HX3.out.t8 (T := T) (b := bw) 0 rfl rfl
  have hsz3 := HX3.out.size (by simp)
  go_wp2_with fail
  refine (queue_ok T v w3 (HR.out.below (by rw [hbw]; exact HX3.out.be)) (Tk.ok_len HK.out)).mono ?_
  rintro e w4 ⟨q, rfl, hQ⟩
  obtain ⟨S, hJ, hS, hb⟩ := hQ
  rw [HXR.out] at hJ
  obtain ⟨g, n, cap, rs, hq, hSq, hSg, hSl, hr0, hr1, hr2⟩ := hJ.ring
  have HX4 := Lib.hid (HX3.out.call hb)
  have hqb : bw + 3 ≤ q := Nat.le_trans hsz3 (hS q hSq)
  have hgb : bw + 3 ≤ g := Nat.le_trans hsz3 (hS g hSg)
  have HQ4 := Lib.hid hq
  have HR0 := Lib.hid hr0
  have HR1 := Lib.hid hr1
  have HR2 := Lib.hid hr2
  clear hb t0 t1 t2 t3 t4 t5 t6 t7 HX3 hJ hS hsz3 hSq hSg hSl hq hr0 hr1 hr2
  go_wp2_with fail
  refine (jhead_ok q g n cap 0 (r.length + 1) 8 rs x w4 HQ4.out (by omega) HR0.out).mono ?_
  rintro e w5 ⟨rfl, hb⟩
  have HX5 := Lib.hid (HX4.out.call hb)
  have HQ5 := Lib.hid (HQ4.out.below hb)
  have hq5 : q < w5.heap.size := HQ5.out.lt
  have hg5 : g < w5.heap.size := HQ5.out.ltg
  have hs5 := HX5.out.size (by simp)
  have hs5' : bw + 3 ≤ w5.heap.size := hs5
  obtain ⟨t0, t1, t2, t3, t4, t5, t6, t7⟩ := HX5.out.t8 (T := T) (b := bw) 0 rfl rfl
  obtain ⟨u0, u1, u2, u3, u4, u5, u6, u7⟩ := HX5.out.f8 (b := bw) 0 rfl rfl
  have hbw5 : bw < w5.heap.size := by omega
  clear hb HX4 HQ4 hs5
  go_wp2_with fail
  obtain ⟨W6, hW6⟩ : ∃ y, y = ((w5.setCell ⟨bw, 2, none⟩ (.int .i64 (T.g + 1))).setCell ⟨bw, 3, none⟩ (.int .i64 (T.o + 1))).alloc (.cells #[.int .i64 (x.f0 - 1), .int .i64 (x.f1 - 1), .int .i64 x.f2, .int .i64 x.f3] 32) := ⟨_, rfl⟩
  rw [← hW6]
  obtain ⟨jb, hjb⟩ : ∃ b, b = w5.heap.size := ⟨_, rfl⟩
  rw [← hjb]
  have X6 : Chg (fun k => k = bw) w5 W6 := by rw [hW6]; exact (((Chg.refl (fun k => k = bw) w5).setCell _ _ rfl).setCell _ _ rfl).alloc _
  have HX6 : Hid (BX bw w W6 [Tk.cs ⟨T.p, T.js, T.g + 1, T.o + 1, T.l, T.d, T.c, T.t⟩ v, zT.cs nilS, zT.cs nilS]) := by
    rw [hW6]
    exact Lib.hid (((HX5.out.set 0 2 (.int .i64 (T.g + 1)) (c := T.cs v) rfl).set 0 3 (.int .i64 (T.o + 1)) rfl).alloc _)
  have hj6 : W6.heap[jb]? = some (.cells (jcs (⟨y0, x.f1 - 1, x.f2, x.f3⟩ : Jb)).1 32 (0, 0)) := by
    have := alloc_new ((w5.setCell ⟨bw, 2, none⟩ (.int .i64 (T.g + 1))).setCell ⟨bw, 3, none⟩ (.int .i64 (T.o + 1))) (.cells #[.int .i64 (x.f0 - 1), .int .i64 (x.f1 - 1), .int .i64 x.f2, .int .i64 x.f3] 32)
    rw [← hW6] at this
    rw [hjb]
    rw [HY0.out]
    simpa using this
  have hqn : ¬ q = bw := by omega
  have hgn : ¬ g = bw := by omega
  have hq6 := HQ5.out.chg X6 hqn hgn
  have hjq : jb ≠ q := by omega
  have hjg : jb ≠ g := by omega
  have hjb3 : bw + 3 ≤ jb := by omega
  have HJ6 := Lib.hid hj6
  have HQ6 := Lib.hid hq6
  clear hW6 X6 hj6 hq6 HX5 HQ5 t0 t1 t2 t3 t4 t5 t6 t7 u0 u1 u2 u3 u4 u5 u6 u7 hq5 hg5 hs5' hjb hbw5
  rw [← HY0.out]
  refine (jput_ok q g n cap 0 (r.length + 1) 8 0 rs (⟨y0, x.f1 - 1, x.f2, x.f3⟩ : Jb) W6 HQ6.out (by omega)).mono ?_
  rintro e w7 ⟨rfl, hq7, hc7⟩
  rw [Nat.add_zero, Nat.zero_mod] at hq7
  have hx7 := HX6.out.chg hc7 (fun k s => s.elim (fun e => by rw [e]; exact hqb) (fun e => by rw [e]; exact hgb))
  have hj7 := hc7.heap HJ6.out (fun s => s.elim (fun e => hjq e) (fun e => hjg e))
  obtain ⟨j0, j1, j2, j3⟩ := box_cells (x := (⟨y0, x.f1 - 1, x.f2, x.f3⟩ : Jb)) hj7
  dsimp only at j0 j1 j2 j3
  have HX7 := Lib.hid hx7
  have HQ7 := Lib.hid hq7
  have HJ7 := Lib.hid hj7
  clear hc7 hq7 hx7 hj7 HX6 HQ6 HJ6
  obtain ⟨t0, t1, t2, t3, t4, t5, t6, t7⟩ := HX7.out.t8 (T := ⟨T.p, T.js, T.g + 1, T.o + 1, T.l, T.d, T.c, T.t⟩) (b := bw) 0 rfl rfl
  obtain ⟨u0, u1, u2, u3, u4, u5, u6, u7⟩ := HX7.out.f8 (b := bw) 0 rfl rfl
  go_wp2_with fail
  obtain ⟨W8, hW8⟩ : ∃ y, y = w7.setCell ⟨bw, 6, none⟩ (.int .i64 (T.c + 1)) := ⟨_, rfl⟩
  rw [← hW8]
  have X8 : Chg (fun k => k = bw) w7 W8 := by rw [hW8]; exact (Chg.refl (fun k => k = bw) w7).setCell _ _ rfl
  have HX8 : Hid (BX bw w W8 [Tk.cs ⟨T.p, T.js, T.g + 1, T.o + 1, T.l, T.d, T.c + 1, T.t⟩ v, zT.cs nilS, zT.cs nilS]) := by
    rw [hW8]
    exact Lib.hid (HX7.out.set 0 6 (.int .i64 (T.c + 1)) (c := Tk.cs ⟨T.p, T.js, T.g + 1, T.o + 1, T.l, T.d, T.c, T.t⟩ v) rfl)
  have HQ8 := Lib.hid (HQ7.out.chg X8 hqn hgn)
  have HJ8 := Lib.hid (X8.heap HJ7.out (by show ¬ jb = bw; omega))
  clear hW8 X8 HX7 HQ7 HJ7 t0 t1 t2 t3 t4 t5 t6 t7 u0 u1 u2 u3 u4 u5 u6 u7 j0 j1 j2 j3
  refine (jpop_ok q g n cap 0 (r.length + 1) 8 (rs.set 0 (⟨y0, x.f1 - 1, x.f2, x.f3⟩ : Jb)) (⟨y0, x.f1 - 1, x.f2, x.f3⟩ : Jb) W8 HQ8.out (by omega) (by rw [List.getElem?_set_self (by have := (List.getElem?_eq_some_iff.1 HR0.out).1; omega)])).mono ?_
  rintro e w9 ⟨rfl, hq9, hc9⟩
  have hx9 := HX8.out.chg hc9 (fun k s => s.elim (fun e => by rw [e]; exact hqb) (fun e => by rw [e]; exact hgb))
  have hj9 := hc9.heap HJ8.out (fun s => s.elim (fun e => hjq e) (fun e => hjg e))
  obtain ⟨j0, j1, j2, j3⟩ := box_cells (x := (⟨y0, x.f1 - 1, x.f2, x.f3⟩ : Jb)) hj9
  dsimp only at j0 j1 j2 j3
  obtain ⟨t0, t1, t2, t3, t4, t5, t6, t7⟩ := hx9.t8 (T := ⟨T.p, T.js, T.g + 1, T.o + 1, T.l, T.d, T.c + 1, T.t⟩) (b := bw) 0 rfl rfl
  obtain ⟨u0, u1, u2, u3, u4, u5, u6, u7⟩ := hx9.f8 (b := bw) 0 rfl rfl
  have HX9 := Lib.hid hx9
  have HQ9 := Lib.hid hq9
  clear hc9 hq9 hx9 hj9 HX8 HQ8 HJ8
  have HL := Lib.hid (jlist_some q g n cap ((0 + 1) % n) (r.length + 1 - 1) 8 ((rs.set 0 (⟨y0, x.f1 - 1, x.f2, x.f3⟩ : Jb)).set 0 zJ) w9 HQ9.out)
  rw [HR2.out] at HL
  go_wp2_with fail
  refine HL.out.mono ?_
  rintro e wZ ⟨v', rfl, hR, hb⟩
  obtain ⟨AZ, cZ, rfl⟩ := Kd.R_slice hR
  have hxZ := HX9.out.call hb
  have hR3 : kJ.R 32 wZ bw (fun k => bw + 3 ≤ k) (.slice AZ (r).length cZ) (r) := by
    have := Kd.R_lower hR (base' := bw + 3) (HX9.out.size (by simp))
    have k := Kd.R_mono (Kd.R_bound this) (ok' := fun k => bw + 3 ≤ k) (fun k hk => hk.2.1)
    exact Kd.R_lower k (by omega)
  have HRZ := Lib.hid hR3
  obtain ⟨t0, t1, t2, t3, t4, t5, t6, t7⟩ := hxZ.t8 (T := ⟨T.p, T.js, T.g + 1, T.o + 1, T.l, T.d, T.c + 1, T.t⟩) (b := bw) 0 rfl rfl
  obtain ⟨u0, u1, u2, u3, u4, u5, u6, u7⟩ := hxZ.f8 (b := bw) 0 rfl rfl
  obtain ⟨r0, r1, r2, r3, r4, r5, r6, r7⟩ := hxZ.t8 (T := zT) (b := bw + 1) 1 rfl rfl
  obtain ⟨f0, f1, f2, f3, f4, f5, f6, f7⟩ := hxZ.f8 (b := bw + 1) 1 rfl rfl
  have HXZ := Lib.hid hxZ
  clear hb hR hR3 hxZ HL HX9
  go_wp2
  refine bodyPost_ret (v := .tuple #[Tk.v ⟨T.p, r, T.g + 1, T.o + 1, T.l, T.d, T.c + 1, T.t⟩ (.slice AZ (r).length cZ), .int .i64 2, .int .i64 0, .nilIface]) (by simp [results, Try.results35, go_sem, r0, r1, r2, r3, r4, r5, r6, r7]) rfl ⟨_, rfl, ?_, ?_⟩
  · rw [hbw]
    refine Kd.R_mono (Kd.R_step HRZ.out (fun k hk hlt => ?_)) (fun _ _ => trivial)
    have hk' : bw + 3 ≤ k := hk
    have m1 : k ≠ bw := by omega
    have m2 : k ≠ bw + 1 := by omega
    rw [Below.heap_setCell _ _ _ _ m2, Below.heap_setCell _ _ _ _ m2, Below.heap_setCell _ _ _ _ m2, Below.heap_setCell _ _ _ _ m2, Below.heap_setCell _ _ _ _ m2, Below.heap_setCell _ _ _ _ m2, Below.heap_setCell _ _ _ _ m2, Below.heap_setCell _ _ _ _ m2, Below.heap_setCell _ _ _ _ m1]
  · rw [hbw]
    exact below_set8 (HXZ.out.be.setCell (p := ⟨bw, 1, none⟩) (Nat.le_refl _) _) (by omega) _ _ _ _ _ _ _ _
set_option maxHeartbeats 4000000 in
theorem trun_ci (T : Tk) (v : Value) (now : Int) (w : World) (h : TR w v T.js) (x : Jb) (r : List Jb) (hxr : T.js = x :: r) (hk : T.okB = true) (hn : decide (0 ≤ now ∧ now ≤ 1073741823) = true) (hj : decide (0 < T.js.length) = true) (hg : (T.g == 1073741824) = false) (b1 : 0 ≤ T.g) (b2 : T.g ≤ 1073741824) (b3 : 0 ≤ T.o) (b4 : T.o ≤ 1073741824) (d1 : 0 ≤ T.d) (d2 : T.d ≤ 1073741824) (k1 : 0 ≤ T.c) (k2 : T.c ≤ 1073741824) (l1 : 0 ≤ T.t) (l2 : T.t ≤ 2147483648) (n0 : 0 ≤ now) (n1 : now ≤ 1073741823) (x0 : 1 ≤ x.f0) (x0' : x.f0 ≤ 1048576) (x1 : 0 ≤ x.f1) (x1' : x.f1 ≤ 1048576) (x2 : 0 ≤ x.f2) (x2' : x.f2 ≤ 1073741824) (x3 : 0 ≤ x.f3) (x3' : x.f3 ≤ 1073741824) (c1 : (x.f1 == 1) = true) (c1' : decide (0 < x.f1) = true) (y0 : Int) (hy0 : y0 = x.f0 - 1) (e0 : (y0 == 0) = false) (s1 : decide (0 < x.f3) = true) (ov : Int) (hov : ov = now + 1 - x.f2 - x.f3) (s2 : decide (0 < ov) = false) :
    Calls Try.prog 35 #[T.v v, .int .i64 now] w fun e w' => ∃ v', e = .returned (.tuple #[Tk.v ⟨T.p, r, T.g + 1, T.o + 1, T.l, T.d, T.c + 1, T.t⟩ v', .int .i64 2, .int .i64 0, .nilIface]) ∧ kJ.R 32 w' w.heap.size (fun _ => True) v' (Tk.js ⟨T.p, r, T.g + 1, T.o + 1, T.l, T.d, T.c + 1, T.t⟩) ∧ Below w.heap.size w w' := by
  have HN := Lib.hid hn
  have HJ := Lib.hid hj
  have HXR := Lib.hid hxr
  have HY0 := Lib.hid hy0
  have HOV := Lib.hid hov
  clear hov
  clear hn hj hxr hy0
  obtain ⟨W0, hW0⟩ : ∃ y, y = ((w.alloc (.cells #[.int .i64 T.p, v, .int .i64 T.g, .int .i64 T.o, .int .i64 T.l, .int .i64 T.d, .int .i64 T.c, .int .i64 T.t] 56)).alloc (.cells #[.int .i64 0, .slice none 0 0, .int .i64 0, .int .i64 0, .int .i64 0, .int .i64 0, .int .i64 0, .int .i64 0] 56)).alloc (.cells #[.int .i64 0, .slice none 0 0, .int .i64 0, .int .i64 0, .int .i64 0, .int .i64 0, .int .i64 0, .int .i64 0] 56) := ⟨_, rfl⟩
  have hx : BX w.heap.size w W0 [T.cs v, zT.cs nilS, zT.cs nilS] := by rw [hW0]; exact BX.new w [T.cs v, zT.cs nilS, zT.cs nilS]
  have HX := Lib.hid hx
  have HW0 := Lib.hid hW0
  have HR := Lib.hid h
  have HK := Lib.hid hk
  clear h hx hW0 hk
  go_enter Try.func35, Try.ntmps35
  go_wp2_with fail
  rw [← HW0.out]
  generalize hbw : w.heap.size = bw at *
  refine (tvalid_yes T v W0 (HR.out.below (by rw [hbw]; exact HX.out.be)) HK.out).mono ?_
  rintro e w1 ⟨rfl, hb⟩
  have HX1 := Lib.hid (HX.out.call hb)
  clear hb HX
  go_wp2_with fail
  refine (is_c now 0 1073741823 true HN.out w1).mono ?_
  rintro e w2 ⟨rfl, hb⟩
  have HX2 := Lib.hid (HX1.out.call hb)
  clear hb HX1
  obtain ⟨t0, t1, t2, t3, t4, t5, t6, t7⟩ := HX2.out.t8 (T := T) (b := bw) 0 rfl rfl
  go_wp2_with fail
  refine (tready_c T v true w2 (HR.out.below (by rw [hbw]; exact HX2.out.be)) HJ.out).mono ?_
  rintro e w3 ⟨rfl, hb⟩
  have HX3 := Lib.hid (HX2.out.call hb)
  clear hb HX2 t0 t1 t2 t3 t4 t5 t6 t7
  obtain ⟨t0, t1, t2, t3, t4, t5, t6, t7⟩ := HX3.out.t8 (T := T) (b := bw) 0 rfl rfl
  have hsz3 := HX3.out.size (by simp)
  go_wp2_with fail
  refine (queue_ok T v w3 (HR.out.below (by rw [hbw]; exact HX3.out.be)) (Tk.ok_len HK.out)).mono ?_
  rintro e w4 ⟨q, rfl, hQ⟩
  obtain ⟨S, hJ, hS, hb⟩ := hQ
  rw [HXR.out] at hJ
  obtain ⟨g, n, cap, rs, hq, hSq, hSg, hSl, hr0, hr1, hr2⟩ := hJ.ring
  have HX4 := Lib.hid (HX3.out.call hb)
  have hqb : bw + 3 ≤ q := Nat.le_trans hsz3 (hS q hSq)
  have hgb : bw + 3 ≤ g := Nat.le_trans hsz3 (hS g hSg)
  have HQ4 := Lib.hid hq
  have HR0 := Lib.hid hr0
  have HR1 := Lib.hid hr1
  have HR2 := Lib.hid hr2
  clear hb t0 t1 t2 t3 t4 t5 t6 t7 HX3 hJ hS hsz3 hSq hSg hSl hq hr0 hr1 hr2
  go_wp2_with fail
  refine (jhead_ok q g n cap 0 (r.length + 1) 8 rs x w4 HQ4.out (by omega) HR0.out).mono ?_
  rintro e w5 ⟨rfl, hb⟩
  have HX5 := Lib.hid (HX4.out.call hb)
  have HQ5 := Lib.hid (HQ4.out.below hb)
  have hq5 : q < w5.heap.size := HQ5.out.lt
  have hg5 : g < w5.heap.size := HQ5.out.ltg
  have hs5 := HX5.out.size (by simp)
  have hs5' : bw + 3 ≤ w5.heap.size := hs5
  obtain ⟨t0, t1, t2, t3, t4, t5, t6, t7⟩ := HX5.out.t8 (T := T) (b := bw) 0 rfl rfl
  obtain ⟨u0, u1, u2, u3, u4, u5, u6, u7⟩ := HX5.out.f8 (b := bw) 0 rfl rfl
  have hbw5 : bw < w5.heap.size := by omega
  clear hb HX4 HQ4 hs5
  go_wp2_with fail
  obtain ⟨W6, hW6⟩ : ∃ y, y = ((w5.setCell ⟨bw, 2, none⟩ (.int .i64 (T.g + 1))).setCell ⟨bw, 3, none⟩ (.int .i64 (T.o + 1))).alloc (.cells #[.int .i64 (x.f0 - 1), .int .i64 (x.f1 - 1), .int .i64 x.f2, .int .i64 x.f3] 32) := ⟨_, rfl⟩
  rw [← hW6]
  obtain ⟨jb, hjb⟩ : ∃ b, b = w5.heap.size := ⟨_, rfl⟩
  rw [← hjb]
  have X6 : Chg (fun k => k = bw) w5 W6 := by rw [hW6]; exact (((Chg.refl (fun k => k = bw) w5).setCell _ _ rfl).setCell _ _ rfl).alloc _
  have HX6 : Hid (BX bw w W6 [Tk.cs ⟨T.p, T.js, T.g + 1, T.o + 1, T.l, T.d, T.c, T.t⟩ v, zT.cs nilS, zT.cs nilS]) := by
    rw [hW6]
    exact Lib.hid (((HX5.out.set 0 2 (.int .i64 (T.g + 1)) (c := T.cs v) rfl).set 0 3 (.int .i64 (T.o + 1)) rfl).alloc _)
  have hj6 : W6.heap[jb]? = some (.cells (jcs (⟨y0, x.f1 - 1, x.f2, x.f3⟩ : Jb)).1 32 (0, 0)) := by
    have := alloc_new ((w5.setCell ⟨bw, 2, none⟩ (.int .i64 (T.g + 1))).setCell ⟨bw, 3, none⟩ (.int .i64 (T.o + 1))) (.cells #[.int .i64 (x.f0 - 1), .int .i64 (x.f1 - 1), .int .i64 x.f2, .int .i64 x.f3] 32)
    rw [← hW6] at this
    rw [hjb]
    rw [HY0.out]
    simpa using this
  have hqn : ¬ q = bw := by omega
  have hgn : ¬ g = bw := by omega
  have hq6 := HQ5.out.chg X6 hqn hgn
  have hjq : jb ≠ q := by omega
  have hjg : jb ≠ g := by omega
  have hjb3 : bw + 3 ≤ jb := by omega
  have HJ6 := Lib.hid hj6
  have HQ6 := Lib.hid hq6
  clear hW6 X6 hj6 hq6 HX5 HQ5 t0 t1 t2 t3 t4 t5 t6 t7 u0 u1 u2 u3 u4 u5 u6 u7 hq5 hg5 hs5' hjb hbw5
  rw [← HY0.out]
  refine (jput_ok q g n cap 0 (r.length + 1) 8 0 rs (⟨y0, x.f1 - 1, x.f2, x.f3⟩ : Jb) W6 HQ6.out (by omega)).mono ?_
  rintro e w7 ⟨rfl, hq7, hc7⟩
  rw [Nat.add_zero, Nat.zero_mod] at hq7
  have hx7 := HX6.out.chg hc7 (fun k s => s.elim (fun e => by rw [e]; exact hqb) (fun e => by rw [e]; exact hgb))
  have hj7 := hc7.heap HJ6.out (fun s => s.elim (fun e => hjq e) (fun e => hjg e))
  obtain ⟨j0, j1, j2, j3⟩ := box_cells (x := (⟨y0, x.f1 - 1, x.f2, x.f3⟩ : Jb)) hj7
  dsimp only at j0 j1 j2 j3
  have HX7 := Lib.hid hx7
  have HQ7 := Lib.hid hq7
  have HJ7 := Lib.hid hj7
  clear hc7 hq7 hx7 hj7 HX6 HQ6 HJ6
  obtain ⟨t0, t1, t2, t3, t4, t5, t6, t7⟩ := HX7.out.t8 (T := ⟨T.p, T.js, T.g + 1, T.o + 1, T.l, T.d, T.c, T.t⟩) (b := bw) 0 rfl rfl
  obtain ⟨u0, u1, u2, u3, u4, u5, u6, u7⟩ := HX7.out.f8 (b := bw) 0 rfl rfl
  go_wp2_with fail
  obtain ⟨W8, hW8⟩ : ∃ y, y = w7.setCell ⟨bw, 6, none⟩ (.int .i64 (T.c + 1)) := ⟨_, rfl⟩
  rw [← hW8]
  have X8 : Chg (fun k => k = bw) w7 W8 := by rw [hW8]; exact (Chg.refl (fun k => k = bw) w7).setCell _ _ rfl
  have HX8 : Hid (BX bw w W8 [Tk.cs ⟨T.p, T.js, T.g + 1, T.o + 1, T.l, T.d, T.c + 1, T.t⟩ v, zT.cs nilS, zT.cs nilS]) := by
    rw [hW8]
    exact Lib.hid (HX7.out.set 0 6 (.int .i64 (T.c + 1)) (c := Tk.cs ⟨T.p, T.js, T.g + 1, T.o + 1, T.l, T.d, T.c, T.t⟩ v) rfl)
  have HQ8 := Lib.hid (HQ7.out.chg X8 hqn hgn)
  have HJ8 := Lib.hid (X8.heap HJ7.out (by show ¬ jb = bw; omega))
  clear hW8 X8 HX7 HQ7 HJ7 t0 t1 t2 t3 t4 t5 t6 t7 u0 u1 u2 u3 u4 u5 u6 u7 j0 j1 j2 j3
  refine (jpop_ok q g n cap 0 (r.length + 1) 8 (rs.set 0 (⟨y0, x.f1 - 1, x.f2, x.f3⟩ : Jb)) (⟨y0, x.f1 - 1, x.f2, x.f3⟩ : Jb) W8 HQ8.out (by omega) (by rw [List.getElem?_set_self (by have := (List.getElem?_eq_some_iff.1 HR0.out).1; omega)])).mono ?_
  rintro e w9 ⟨rfl, hq9, hc9⟩
  have hx9 := HX8.out.chg hc9 (fun k s => s.elim (fun e => by rw [e]; exact hqb) (fun e => by rw [e]; exact hgb))
  have hj9 := hc9.heap HJ8.out (fun s => s.elim (fun e => hjq e) (fun e => hjg e))
  obtain ⟨j0, j1, j2, j3⟩ := box_cells (x := (⟨y0, x.f1 - 1, x.f2, x.f3⟩ : Jb)) hj9
  dsimp only at j0 j1 j2 j3
  obtain ⟨t0, t1, t2, t3, t4, t5, t6, t7⟩ := hx9.t8 (T := ⟨T.p, T.js, T.g + 1, T.o + 1, T.l, T.d, T.c + 1, T.t⟩) (b := bw) 0 rfl rfl
  obtain ⟨u0, u1, u2, u3, u4, u5, u6, u7⟩ := hx9.f8 (b := bw) 0 rfl rfl
  have HX9 := Lib.hid hx9
  have HQ9 := Lib.hid hq9
  clear hc9 hq9 hx9 hj9 HX8 HQ8 HJ8
  have sv : now + 1 - x.f2 - x.f3 = ov := HOV.out.symm
  have HL := Lib.hid (jlist_some q g n cap ((0 + 1) % n) (r.length + 1 - 1) 8 ((rs.set 0 (⟨y0, x.f1 - 1, x.f2, x.f3⟩ : Jb)).set 0 zJ) w9 HQ9.out)
  rw [HR2.out] at HL
  go_wp2_with fail
  refine HL.out.mono ?_
  rintro e wZ ⟨v', rfl, hR, hb⟩
  obtain ⟨AZ, cZ, rfl⟩ := Kd.R_slice hR
  have hxZ := HX9.out.call hb
  have hR3 : kJ.R 32 wZ bw (fun k => bw + 3 ≤ k) (.slice AZ (r).length cZ) (r) := by
    have := Kd.R_lower hR (base' := bw + 3) (HX9.out.size (by simp))
    have k := Kd.R_mono (Kd.R_bound this) (ok' := fun k => bw + 3 ≤ k) (fun k hk => hk.2.1)
    exact Kd.R_lower k (by omega)
  have HRZ := Lib.hid hR3
  obtain ⟨t0, t1, t2, t3, t4, t5, t6, t7⟩ := hxZ.t8 (T := ⟨T.p, T.js, T.g + 1, T.o + 1, T.l, T.d, T.c + 1, T.t⟩) (b := bw) 0 rfl rfl
  obtain ⟨u0, u1, u2, u3, u4, u5, u6, u7⟩ := hxZ.f8 (b := bw) 0 rfl rfl
  obtain ⟨r0, r1, r2, r3, r4, r5, r6, r7⟩ := hxZ.t8 (T := zT) (b := bw + 1) 1 rfl rfl
  obtain ⟨f0, f1, f2, f3, f4, f5, f6, f7⟩ := hxZ.f8 (b := bw + 1) 1 rfl rfl
  have HXZ := Lib.hid hxZ
  clear hb hR hR3 hxZ HL HX9
  go_wp2
  refine bodyPost_ret (v := .tuple #[Tk.v ⟨T.p, r, T.g + 1, T.o + 1, T.l, T.d, T.c + 1, T.t⟩ (.slice AZ (r).length cZ), .int .i64 2, .int .i64 0, .nilIface]) (by simp [results, Try.results35, go_sem, r0, r1, r2, r3, r4, r5, r6, r7]) rfl ⟨_, rfl, ?_, ?_⟩
  · rw [hbw]
    refine Kd.R_mono (Kd.R_step HRZ.out (fun k hk hlt => ?_)) (fun _ _ => trivial)
    have hk' : bw + 3 ≤ k := hk
    have m1 : k ≠ bw := by omega
    have m2 : k ≠ bw + 1 := by omega
    rw [Below.heap_setCell _ _ _ _ m2, Below.heap_setCell _ _ _ _ m2, Below.heap_setCell _ _ _ _ m2, Below.heap_setCell _ _ _ _ m2, Below.heap_setCell _ _ _ _ m2, Below.heap_setCell _ _ _ _ m2, Below.heap_setCell _ _ _ _ m2, Below.heap_setCell _ _ _ _ m2, Below.heap_setCell _ _ _ _ m1]
  · rw [hbw]
    exact below_set8 (HXZ.out.be.setCell (p := ⟨bw, 1, none⟩) (Nat.le_refl _) _) (by omega) _ _ _ _ _ _ _ _
set_option maxHeartbeats 4000000 in
theorem trun_cl (T : Tk) (v : Value) (now : Int) (w : World) (h : TR w v T.js) (x : Jb) (r : List Jb) (hxr : T.js = x :: r) (hk : T.okB = true) (hn : decide (0 ≤ now ∧ now ≤ 1073741823) = true) (hj : decide (0 < T.js.length) = true) (hg : (T.g == 1073741824) = false) (b1 : 0 ≤ T.g) (b2 : T.g ≤ 1073741824) (b3 : 0 ≤ T.o) (b4 : T.o ≤ 1073741824) (d1 : 0 ≤ T.d) (d2 : T.d ≤ 1073741824) (k1 : 0 ≤ T.c) (k2 : T.c ≤ 1073741824) (l1 : 0 ≤ T.t) (l2 : T.t ≤ 2147483648) (n0 : 0 ≤ now) (n1 : now ≤ 1073741823) (x0 : 1 ≤ x.f0) (x0' : x.f0 ≤ 1048576) (x1 : 0 ≤ x.f1) (x1' : x.f1 ≤ 1048576) (x2 : 0 ≤ x.f2) (x2' : x.f2 ≤ 1073741824) (x3 : 0 ≤ x.f3) (x3' : x.f3 ≤ 1073741824) (c1 : (x.f1 == 1) = true) (c1' : decide (0 < x.f1) = true) (y0 : Int) (hy0 : y0 = x.f0 - 1) (e0 : (y0 == 0) = false) (s1 : decide (0 < x.f3) = true) (ov : Int) (hov : ov = now + 1 - x.f2 - x.f3) (s2 : decide (0 < ov) = true) :
    Calls Try.prog 35 #[T.v v, .int .i64 now] w fun e w' => ∃ v', e = .returned (.tuple #[Tk.v ⟨T.p, r, T.g + 1, T.o + 1, T.l, T.d, T.c + 1, T.t + 1⟩ v', .int .i64 2, .int .i64 ov, .nilIface]) ∧ kJ.R 32 w' w.heap.size (fun _ => True) v' (Tk.js ⟨T.p, r, T.g + 1, T.o + 1, T.l, T.d, T.c + 1, T.t + 1⟩) ∧ Below w.heap.size w w' := by
  have HN := Lib.hid hn
  have HJ := Lib.hid hj
  have HXR := Lib.hid hxr
  have HY0 := Lib.hid hy0
  have HOV := Lib.hid hov
  clear hov
  clear hn hj hxr hy0
  obtain ⟨W0, hW0⟩ : ∃ y, y = ((w.alloc (.cells #[.int .i64 T.p, v, .int .i64 T.g, .int .i64 T.o, .int .i64 T.l, .int .i64 T.d, .int .i64 T.c, .int .i64 T.t] 56)).alloc (.cells #[.int .i64 0, .slice none 0 0, .int .i64 0, .int .i64 0, .int .i64 0, .int .i64 0, .int .i64 0, .int .i64 0] 56)).alloc (.cells #[.int .i64 0, .slice none 0 0, .int .i64 0, .int .i64 0, .int .i64 0, .int .i64 0, .int .i64 0, .int .i64 0] 56) := ⟨_, rfl⟩
  have hx : BX w.heap.size w W0 [T.cs v, zT.cs nilS, zT.cs nilS] := by rw [hW0]; exact BX.new w [T.cs v, zT.cs nilS, zT.cs nilS]
  have HX := Lib.hid hx
  have HW0 := Lib.hid hW0
  have HR := Lib.hid h
  have HK := Lib.hid hk
  clear h hx hW0 hk
  go_enter Try.func35, Try.ntmps35
  go_wp2_with fail
  rw [← HW0.out]
  generalize hbw : w.heap.size = bw at *
  refine (tvalid_yes T v W0 (HR.out.below (by rw [hbw]; exact HX.out.be)) HK.out).mono ?_
  rintro e w1 ⟨rfl, hb⟩
  have HX1 := Lib.hid (HX.out.call hb)
  clear hb HX
  go_wp2_with fail
  refine (is_c now 0 1073741823 true HN.out w1).mono ?_
  rintro e w2 ⟨rfl, hb⟩
  have HX2 := Lib.hid (HX1.out.call hb)
  clear hb HX1
  obtain ⟨t0, t1, t2, t3, t4, t5, t6, t7⟩ := HX2.out.t8 (T := T) (b := bw) 0 rfl rfl
  go_wp2_with fail
  refine (tready_c T v true w2 (HR.out.below (by rw [hbw]; exact HX2.out.be)) HJ.out).mono ?_
  rintro e w3 ⟨rfl, hb⟩
  have HX3 := Lib.hid (HX2.out.call hb)
  clear hb HX2 t0 t1 t2 t3 t4 t5 t6 t7
  obtain ⟨t0, t1, t2, t3, t4, t5, t6, t7⟩ := HX3.out.t8 (T := T) (b := bw) 0 rfl rfl
  have hsz3 := HX3.out.size (by simp)
  go_wp2_with fail
  refine (queue_ok T v w3 (HR.out.below (by rw [hbw]; exact HX3.out.be)) (Tk.ok_len HK.out)).mono ?_
  rintro e w4 ⟨q, rfl, hQ⟩
  obtain ⟨S, hJ, hS, hb⟩ := hQ
  rw [HXR.out] at hJ
  obtain ⟨g, n, cap, rs, hq, hSq, hSg, hSl, hr0, hr1, hr2⟩ := hJ.ring
  have HX4 := Lib.hid (HX3.out.call hb)
  have hqb : bw + 3 ≤ q := Nat.le_trans hsz3 (hS q hSq)
  have hgb : bw + 3 ≤ g := Nat.le_trans hsz3 (hS g hSg)
  have HQ4 := Lib.hid hq
  have HR0 := Lib.hid hr0
  have HR1 := Lib.hid hr1
  have HR2 := Lib.hid hr2
  clear hb t0 t1 t2 t3 t4 t5 t6 t7 HX3 hJ hS hsz3 hSq hSg hSl hq hr0 hr1 hr2
  go_wp2_with fail
  refine (jhead_ok q g n cap 0 (r.length + 1) 8 rs x w4 HQ4.out (by omega) HR0.out).mono ?_
  rintro e w5 ⟨rfl, hb⟩
  have HX5 := Lib.hid (HX4.out.call hb)
  have HQ5 := Lib.hid (HQ4.out.below hb)
  have hq5 : q < w5.heap.size := HQ5.out.lt
  have hg5 : g < w5.heap.size := HQ5.out.ltg
  have hs5 := HX5.out.size (by simp)
  have hs5' : bw + 3 ≤ w5.heap.size := hs5
  obtain ⟨t0, t1, t2, t3, t4, t5, t6, t7⟩ := HX5.out.t8 (T := T) (b := bw) 0 rfl rfl
  obtain ⟨u0, u1, u2, u3, u4, u5, u6, u7⟩ := HX5.out.f8 (b := bw) 0 rfl rfl
  have hbw5 : bw < w5.heap.size := by omega
  clear hb HX4 HQ4 hs5
  go_wp2_with fail
  obtain ⟨W6, hW6⟩ : ∃ y, y = ((w5.setCell ⟨bw, 2, none⟩ (.int .i64 (T.g + 1))).setCell ⟨bw, 3, none⟩ (.int .i64 (T.o + 1))).alloc (.cells #[.int .i64 (x.f0 - 1), .int .i64 (x.f1 - 1), .int .i64 x.f2, .int .i64 x.f3] 32) := ⟨_, rfl⟩
  rw [← hW6]
  obtain ⟨jb, hjb⟩ : ∃ b, b = w5.heap.size := ⟨_, rfl⟩
  rw [← hjb]
  have X6 : Chg (fun k => k = bw) w5 W6 := by rw [hW6]; exact (((Chg.refl (fun k => k = bw) w5).setCell _ _ rfl).setCell _ _ rfl).alloc _
  have HX6 : Hid (BX bw w W6 [Tk.cs ⟨T.p, T.js, T.g + 1, T.o + 1, T.l, T.d, T.c, T.t⟩ v, zT.cs nilS, zT.cs nilS]) := by
    rw [hW6]
    exact Lib.hid (((HX5.out.set 0 2 (.int .i64 (T.g + 1)) (c := T.cs v) rfl).set 0 3 (.int .i64 (T.o + 1)) rfl).alloc _)
  have hj6 : W6.heap[jb]? = some (.cells (jcs (⟨y0, x.f1 - 1, x.f2, x.f3⟩ : Jb)).1 32 (0, 0)) := by
    have := alloc_new ((w5.setCell ⟨bw, 2, none⟩ (.int .i64 (T.g + 1))).setCell ⟨bw, 3, none⟩ (.int .i64 (T.o + 1))) (.cells #[.int .i64 (x.f0 - 1), .int .i64 (x.f1 - 1), .int .i64 x.f2, .int .i64 x.f3] 32)
    rw [← hW6] at this
    rw [hjb]
    rw [HY0.out]
    simpa using this
  have hqn : ¬ q = bw := by omega
  have hgn : ¬ g = bw := by omega
  have hq6 := HQ5.out.chg X6 hqn hgn
  have hjq : jb ≠ q := by omega
  have hjg : jb ≠ g := by omega
  have hjb3 : bw + 3 ≤ jb := by omega
  have HJ6 := Lib.hid hj6
  have HQ6 := Lib.hid hq6
  clear hW6 X6 hj6 hq6 HX5 HQ5 t0 t1 t2 t3 t4 t5 t6 t7 u0 u1 u2 u3 u4 u5 u6 u7 hq5 hg5 hs5' hjb hbw5
  rw [← HY0.out]
  refine (jput_ok q g n cap 0 (r.length + 1) 8 0 rs (⟨y0, x.f1 - 1, x.f2, x.f3⟩ : Jb) W6 HQ6.out (by omega)).mono ?_
  rintro e w7 ⟨rfl, hq7, hc7⟩
  rw [Nat.add_zero, Nat.zero_mod] at hq7
  have hx7 := HX6.out.chg hc7 (fun k s => s.elim (fun e => by rw [e]; exact hqb) (fun e => by rw [e]; exact hgb))
  have hj7 := hc7.heap HJ6.out (fun s => s.elim (fun e => hjq e) (fun e => hjg e))
  obtain ⟨j0, j1, j2, j3⟩ := box_cells (x := (⟨y0, x.f1 - 1, x.f2, x.f3⟩ : Jb)) hj7
  dsimp only at j0 j1 j2 j3
  have HX7 := Lib.hid hx7
  have HQ7 := Lib.hid hq7
  have HJ7 := Lib.hid hj7
  clear hc7 hq7 hx7 hj7 HX6 HQ6 HJ6
  obtain ⟨t0, t1, t2, t3, t4, t5, t6, t7⟩ := HX7.out.t8 (T := ⟨T.p, T.js, T.g + 1, T.o + 1, T.l, T.d, T.c, T.t⟩) (b := bw) 0 rfl rfl
  obtain ⟨u0, u1, u2, u3, u4, u5, u6, u7⟩ := HX7.out.f8 (b := bw) 0 rfl rfl
  go_wp2_with fail
  obtain ⟨W8, hW8⟩ : ∃ y, y = w7.setCell ⟨bw, 6, none⟩ (.int .i64 (T.c + 1)) := ⟨_, rfl⟩
  rw [← hW8]
  have X8 : Chg (fun k => k = bw) w7 W8 := by rw [hW8]; exact (Chg.refl (fun k => k = bw) w7).setCell _ _ rfl
  have HX8 : Hid (BX bw w W8 [Tk.cs ⟨T.p, T.js, T.g + 1, T.o + 1, T.l, T.d, T.c + 1, T.t⟩ v, zT.cs nilS, zT.cs nilS]) := by
    rw [hW8]
    exact Lib.hid (HX7.out.set 0 6 (.int .i64 (T.c + 1)) (c := Tk.cs ⟨T.p, T.js, T.g + 1, T.o + 1, T.l, T.d, T.c, T.t⟩ v) rfl)
  have HQ8 := Lib.hid (HQ7.out.chg X8 hqn hgn)
  have HJ8 := Lib.hid (X8.heap HJ7.out (by show ¬ jb = bw; omega))
  clear hW8 X8 HX7 HQ7 HJ7 t0 t1 t2 t3 t4 t5 t6 t7 u0 u1 u2 u3 u4 u5 u6 u7 j0 j1 j2 j3
  refine (jpop_ok q g n cap 0 (r.length + 1) 8 (rs.set 0 (⟨y0, x.f1 - 1, x.f2, x.f3⟩ : Jb)) (⟨y0, x.f1 - 1, x.f2, x.f3⟩ : Jb) W8 HQ8.out (by omega) (by rw [List.getElem?_set_self (by have := (List.getElem?_eq_some_iff.1 HR0.out).1; omega)])).mono ?_
  rintro e w9 ⟨rfl, hq9, hc9⟩
  have hx9 := HX8.out.chg hc9 (fun k s => s.elim (fun e => by rw [e]; exact hqb) (fun e => by rw [e]; exact hgb))
  have hj9 := hc9.heap HJ8.out (fun s => s.elim (fun e => hjq e) (fun e => hjg e))
  obtain ⟨j0, j1, j2, j3⟩ := box_cells (x := (⟨y0, x.f1 - 1, x.f2, x.f3⟩ : Jb)) hj9
  dsimp only at j0 j1 j2 j3
  obtain ⟨t0, t1, t2, t3, t4, t5, t6, t7⟩ := hx9.t8 (T := ⟨T.p, T.js, T.g + 1, T.o + 1, T.l, T.d, T.c + 1, T.t⟩) (b := bw) 0 rfl rfl
  obtain ⟨u0, u1, u2, u3, u4, u5, u6, u7⟩ := hx9.f8 (b := bw) 0 rfl rfl
  have HX9 := Lib.hid hx9
  have HQ9 := Lib.hid hq9
  clear hc9 hq9 hx9 hj9 HX8 HQ8 HJ8
  have sv : now + 1 - x.f2 - x.f3 = ov := HOV.out.symm
  go_wp2_with fail
  obtain ⟨WA, hWA⟩ : ∃ y, y = w9.setCell ⟨bw, 7, none⟩ (.int .i64 (T.t + 1)) := ⟨_, rfl⟩
  rw [← hWA]
  have XA : Chg (fun k => k = bw) w9 WA := by rw [hWA]; exact (Chg.refl (fun k => k = bw) w9).setCell _ _ rfl
  have HXA : Hid (BX bw w WA [Tk.cs ⟨T.p, T.js, T.g + 1, T.o + 1, T.l, T.d, T.c + 1, T.t + 1⟩ v, zT.cs nilS, zT.cs nilS]) := by
    rw [hWA]
    exact Lib.hid (HX9.out.set 0 7 (.int .i64 (T.t + 1)) (c := Tk.cs ⟨T.p, T.js, T.g + 1, T.o + 1, T.l, T.d, T.c + 1, T.t⟩ v) rfl)
  have HQA := Lib.hid (HQ9.out.chg XA hqn hgn)
  clear hWA XA HX9 HQ9 t0 t1 t2 t3 t4 t5 t6 t7 u0 u1 u2 u3 u4 u5 u6 u7 j0 j1 j2 j3
  have HL := Lib.hid (jlist_some q g n cap ((0 + 1) % n) (r.length + 1 - 1) 8 ((rs.set 0 (⟨y0, x.f1 - 1, x.f2, x.f3⟩ : Jb)).set 0 zJ) WA HQA.out)
  rw [HR2.out] at HL
  refine HL.out.mono ?_
  rintro e wZ ⟨v', rfl, hR, hb⟩
  obtain ⟨AZ, cZ, rfl⟩ := Kd.R_slice hR
  have hxZ := HXA.out.call hb
  have hR3 : kJ.R 32 wZ bw (fun k => bw + 3 ≤ k) (.slice AZ (r).length cZ) (r) := by
    have := Kd.R_lower hR (base' := bw + 3) (HXA.out.size (by simp))
    have k := Kd.R_mono (Kd.R_bound this) (ok' := fun k => bw + 3 ≤ k) (fun k hk => hk.2.1)
    exact Kd.R_lower k (by omega)
  have HRZ := Lib.hid hR3
  obtain ⟨t0, t1, t2, t3, t4, t5, t6, t7⟩ := hxZ.t8 (T := ⟨T.p, T.js, T.g + 1, T.o + 1, T.l, T.d, T.c + 1, T.t + 1⟩) (b := bw) 0 rfl rfl
  obtain ⟨u0, u1, u2, u3, u4, u5, u6, u7⟩ := hxZ.f8 (b := bw) 0 rfl rfl
  obtain ⟨r0, r1, r2, r3, r4, r5, r6, r7⟩ := hxZ.t8 (T := zT) (b := bw + 1) 1 rfl rfl
  obtain ⟨f0, f1, f2, f3, f4, f5, f6, f7⟩ := hxZ.f8 (b := bw + 1) 1 rfl rfl
  have HXZ := Lib.hid hxZ
  clear hb hR hR3 hxZ HL HXA
  go_wp2
  refine bodyPost_ret (v := .tuple #[Tk.v ⟨T.p, r, T.g + 1, T.o + 1, T.l, T.d, T.c + 1, T.t + 1⟩ (.slice AZ (r).length cZ), .int .i64 2, .int .i64 ov, .nilIface]) (by simp [results, Try.results35, go_sem, r0, r1, r2, r3, r4, r5, r6, r7]) rfl ⟨_, rfl, ?_, ?_⟩
  · rw [hbw]
    refine Kd.R_mono (Kd.R_step HRZ.out (fun k hk hlt => ?_)) (fun _ _ => trivial)
    have hk' : bw + 3 ≤ k := hk
    have m1 : k ≠ bw := by omega
    have m2 : k ≠ bw + 1 := by omega
    rw [Below.heap_setCell _ _ _ _ m2, Below.heap_setCell _ _ _ _ m2, Below.heap_setCell _ _ _ _ m2, Below.heap_setCell _ _ _ _ m2, Below.heap_setCell _ _ _ _ m2, Below.heap_setCell _ _ _ _ m2, Below.heap_setCell _ _ _ _ m2, Below.heap_setCell _ _ _ _ m2, Below.heap_setCell _ _ _ _ m1]
  · rw [hbw]
    exact below_set8 (HXZ.out.be.setCell (p := ⟨bw, 1, none⟩) (Nat.le_refl _) _) (by omega) _ _ _ _ _ _ _ _

end Go.Proofs.Ytdilediiofenmaa

set_option linter.unusedVariables false
set_option linter.unusedSimpArgs false
namespace Go.Proofs.Ytdilediiofenmaa
open Go.RowKit
open Go.Proofs.YtdilediiofenmaaW.PrintWords (Kd Drawn0 Kept rd rdOf)
open Go.Proofs.Ytdilediiofenmaa.PSlackRuns
set_option maxRecDepth 100000

/-- What Push leaves. -/
def PushPost (T : Tk) (x : Jb) (now : Int) (w : World) (e : Ending) (w' : World) : Prop := ∃ v', e = .returned (.tuple #[(pushF T x now).1.v v', errV (pushF T x now).2]) ∧ kJ.R 32 w' w.heap.size (fun _ => True) v' (pushF T x now).1.js ∧ Below w.heap.size w w'
theorem tpush_any (T : Tk) (v : Value) (x : Jb) (now : Int) (w : World) (h : TR w v T.js) (hl : T.js.length ≤ 9223372036854775800) :
    Calls Try.prog 32 #[T.v v, jv x, .int .i64 now] w (PushPost T x now w) := by
  unfold PushPost
  cases hk : T.okB with
  | false =>
    have e : pushF T x now = (zT, 270) := by simp [pushF, hk]
    rw [e]
    exact (tpush_state T v x now w h hl hk).mono fun e w' h => ⟨nilS, h.1, Kd.R_nil _ _ _ _ _, h.2⟩
  | true =>
    by_cases hn : 0 ≤ now ∧ now ≤ 1073741824
    · cases hm : jobB (atJ x now) with
      | false =>
        have e : pushF T x now = (zT, 2) := by unfold pushF; rw [if_neg (by simp [hk]), if_neg (by simp [hn]), if_pos hm]
        rw [e]
        exact (tpush_range T v x now w h hk (decide_eq_true hn) hm).mono fun e w' h => ⟨nilS, h.1, Kd.R_nil _ _ _ _ _, h.2⟩
      | true =>
        by_cases h8 : 8 ≤ T.js.length
        · have e : pushF T x now = (zT, 40) := by unfold pushF; rw [if_neg (by simp [hk]), if_neg (by simp [hn]), if_neg (by simp [hm]), if_pos h8]
          rw [e]
          exact (tpush_full T v x now w h hk (decide_eq_true hn) hm (by have := Tk.ok_len hk; omega)).mono fun e w' h => ⟨nilS, h.1, Kd.R_nil _ _ _ _ _, h.2⟩
        · have e : pushF T x now = (⟨T.p, T.js ++ [atJ x now], T.g, T.o, T.l, T.d, T.c, T.t⟩, 0) := by unfold pushF; rw [if_neg (by simp [hk]), if_neg (by simp [hn]), if_neg (by simp [hm]), if_neg h8]
          rw [e]
          exact tpush_ok T v x now w h hk (decide_eq_true hn) hm (by omega)
    · have e : pushF T x now = (zT, 1) := by unfold pushF; rw [if_neg (by simp [hk]), if_pos hn]
      rw [e]
      exact (tpush_arg T v x now w h hk (decide_eq_false hn)).mono fun e w' h => ⟨nilS, h.1, Kd.R_nil _ _ _ _ _, h.2⟩

/-- What Run leaves. -/
def RunPost (T : Tk) (now : Int) (w : World) (e : Ending) (w' : World) : Prop := ∃ v', e = .returned (.tuple #[(runF T now).1.v v', .int .i64 (runF T now).2.1, .int .i64 (runF T now).2.2.1, errV (runF T now).2.2.2]) ∧ kJ.R 32 w' w.heap.size (fun _ => True) v' (runF T now).1.js ∧ Below w.heap.size w w'
theorem run_cons {T : Tk} {now : Int} {x : Jb} {r : List Jb} (hk : T.okB = true) (hn : 0 ≤ now ∧ now ≤ 1073741823) (hx : T.js = x :: r) : runF T now =
    if T.g = 1073741824 then (zT, 0, 0, 60)
    else if x.f0 = 1 then (⟨T.p, r, T.g + 1, T.o + 1, T.l, T.d + 1, T.c, if 0 < lateF x now then T.t + 1 else T.t⟩, 1, lateF x now, 0)
    else if x.f1 = 1 then (⟨T.p, r, T.g + 1, T.o + 1, T.l, T.d, T.c + 1, if 0 < lateF x now then T.t + 1 else T.t⟩, 2, lateF x now, 0)
    else (⟨T.p, lessJ x :: r, T.g + 1, T.o + 1, T.l, T.d, T.c, T.t⟩, 0, 0, 0) := by
  unfold runF
  rw [if_neg (by simp [hk]), if_neg (by simp [hn]), hx]
theorem late_no {x : Jb} {now : Int} (h : ¬ (0 < x.f3 ∧ 0 < now + 1 - x.f2 - x.f3)) : lateF x now = 0 := if_neg h
theorem late_yes {x : Jb} {now : Int} (h1 : 0 < x.f3) (h2 : 0 < now + 1 - x.f2 - x.f3) : lateF x now = now + 1 - x.f2 - x.f3 := if_pos ⟨h1, h2⟩

theorem trun_any (T : Tk) (v : Value) (now : Int) (w : World) (h : TR w v T.js) (hl : T.js.length ≤ 9223372036854775800) :
    Calls Try.prog 35 #[T.v v, .int .i64 now] w (RunPost T now w) := by
  unfold RunPost
  cases hk : T.okB with
  | false =>
    have e : runF T now = (zT, 0, 0, 270) := by simp [runF, hk]
    rw [e]
    exact (trun_state T v now w h hl hk).mono fun e w' h => ⟨nilS, h.1, Kd.R_nil _ _ _ _ _, h.2⟩
  | true =>
    by_cases hn : 0 ≤ now ∧ now ≤ 1073741823
    · cases hx : T.js with
      | nil =>
        have e : runF T now = (zT, 0, 0, 50) := by unfold runF; rw [if_neg (by simp [hk]), if_neg (by simp [hn]), hx]
        rw [e]
        exact (trun_none T v now w (hx ▸ h) hk (decide_eq_true hn) (by rw [hx]; rfl)).mono fun e w' h => ⟨nilS, h.1, Kd.R_nil _ _ _ _ _, h.2⟩
      | cons x r =>
        have h : TR w v T.js := h
        have hj : decide (0 < T.js.length) = true := by rw [hx]; simp
        rw [run_cons hk hn hx]
        by_cases hg : T.g = 1073741824
        · rw [if_pos hg]
          exact (trun_time T v now w h hk (decide_eq_true hn) hj (by simpa using hg)).mono fun e w' h => ⟨nilS, h.1, Kd.R_nil _ _ _ _ _, h.2⟩
        · rw [if_neg hg]
          have hg' : (T.g == 1073741824) = false := by simpa using hg
          obtain ⟨⟨b1, b2⟩, bo, bl, d1, c1, t1, dg, cg, tg⟩ := Tk.ok_acc hk
          obtain ⟨⟨x0, x0'⟩, ⟨x1, x1'⟩, ⟨x2, x2'⟩, ⟨x3, x3'⟩⟩ := Tk.ok_job hk x (by rw [hx]; exact List.mem_cons_self)
          have f0n : ∀ {z : Int}, z ≠ 1 → ((z - 1) == 0) = false := fun h => by simp; omega
          by_cases h0 : x.f0 = 1
          · rw [if_pos h0]
            have e0 : ((x.f0 - 1) == 0) = true := by simp; omega
            by_cases h3 : 0 < x.f3
            · by_cases h4 : 0 < now + 1 - x.f2 - x.f3
              · rw [late_yes h3 h4, if_pos h4]
                by_cases h1 : x.f1 = 1
                · exact trun_d2l T v now w h x r hx hk (decide_eq_true hn) hj hg' b1 b2 (by omega) (by omega) d1 (by omega) c1 (by omega) t1 (by omega) hn.1 hn.2 x0 x0' x1 x1' x2 x2' x3 x3' (by simpa using h1) (decide_eq_true (by omega)) _ rfl e0 (decide_eq_true h3) _ rfl (decide_eq_true h4)
                · by_cases h1' : 0 < x.f1
                  · exact trun_d1l T v now w h x r hx hk (decide_eq_true hn) hj hg' b1 b2 (by omega) (by omega) d1 (by omega) c1 (by omega) t1 (by omega) hn.1 hn.2 x0 x0' x1 x1' x2 x2' x3 x3' (by simpa using h1) (decide_eq_true h1') _ rfl e0 (decide_eq_true h3) _ rfl (decide_eq_true h4)
                  · exact trun_d0l T v now w h x r hx hk (decide_eq_true hn) hj hg' b1 b2 (by omega) (by omega) d1 (by omega) c1 (by omega) t1 (by omega) hn.1 hn.2 x0 x0' x1 x1' x2 x2' x3 x3' (by simpa using h1) (decide_eq_false h1') _ rfl e0 (decide_eq_true h3) _ rfl (decide_eq_true h4)
              · rw [late_no (fun h => h4 h.2), if_neg (by omega)]
                by_cases h1 : x.f1 = 1
                · exact trun_d2i T v now w h x r hx hk (decide_eq_true hn) hj hg' b1 b2 (by omega) (by omega) d1 (by omega) c1 (by omega) t1 (by omega) hn.1 hn.2 x0 x0' x1 x1' x2 x2' x3 x3' (by simpa using h1) (decide_eq_true (by omega)) _ rfl e0 (decide_eq_true h3) _ rfl (decide_eq_false h4)
                · by_cases h1' : 0 < x.f1
                  · exact trun_d1i T v now w h x r hx hk (decide_eq_true hn) hj hg' b1 b2 (by omega) (by omega) d1 (by omega) c1 (by omega) t1 (by omega) hn.1 hn.2 x0 x0' x1 x1' x2 x2' x3 x3' (by simpa using h1) (decide_eq_true h1') _ rfl e0 (decide_eq_true h3) _ rfl (decide_eq_false h4)
                  · exact trun_d0i T v now w h x r hx hk (decide_eq_true hn) hj hg' b1 b2 (by omega) (by omega) d1 (by omega) c1 (by omega) t1 (by omega) hn.1 hn.2 x0 x0' x1 x1' x2 x2' x3 x3' (by simpa using h1) (decide_eq_false h1') _ rfl e0 (decide_eq_true h3) _ rfl (decide_eq_false h4)
            · rw [late_no (fun h => h3 h.1), if_neg (by omega)]
              by_cases h1 : x.f1 = 1
              · exact trun_d2n T v now w h x r hx hk (decide_eq_true hn) hj hg' b1 b2 (by omega) (by omega) d1 (by omega) c1 (by omega) t1 (by omega) hn.1 hn.2 x0 x0' x1 x1' x2 x2' x3 x3' (by simpa using h1) (decide_eq_true (by omega)) _ rfl e0 (decide_eq_false h3)
              · by_cases h1' : 0 < x.f1
                · exact trun_d1n T v now w h x r hx hk (decide_eq_true hn) hj hg' b1 b2 (by omega) (by omega) d1 (by omega) c1 (by omega) t1 (by omega) hn.1 hn.2 x0 x0' x1 x1' x2 x2' x3 x3' (by simpa using h1) (decide_eq_true h1') _ rfl e0 (decide_eq_false h3)
                · exact trun_d0n T v now w h x r hx hk (decide_eq_true hn) hj hg' b1 b2 (by omega) (by omega) d1 (by omega) c1 (by omega) t1 (by omega) hn.1 hn.2 x0 x0' x1 x1' x2 x2' x3 x3' (by simpa using h1) (decide_eq_false h1') _ rfl e0 (decide_eq_false h3)
          · rw [if_neg h0]
            have e0 : ((x.f0 - 1) == 0) = false := f0n h0
            by_cases h1 : x.f1 = 1
            · rw [if_pos h1]
              have h1b : (x.f1 == 1) = true := by simpa using h1
              by_cases h3 : 0 < x.f3
              · by_cases h4 : 0 < now + 1 - x.f2 - x.f3
                · rw [late_yes h3 h4, if_pos h4]
                  exact trun_cl T v now w h x r hx hk (decide_eq_true hn) hj hg' b1 b2 (by omega) (by omega) d1 (by omega) c1 (by omega) t1 (by omega) hn.1 hn.2 x0 x0' x1 x1' x2 x2' x3 x3' h1b (decide_eq_true (by omega)) _ rfl e0 (decide_eq_true h3) _ rfl (decide_eq_true h4)
                · rw [late_no (fun h => h4 h.2), if_neg (by omega)]
                  exact trun_ci T v now w h x r hx hk (decide_eq_true hn) hj hg' b1 b2 (by omega) (by omega) d1 (by omega) c1 (by omega) t1 (by omega) hn.1 hn.2 x0 x0' x1 x1' x2 x2' x3 x3' h1b (decide_eq_true (by omega)) _ rfl e0 (decide_eq_true h3) _ rfl (decide_eq_false h4)
              · rw [late_no (fun h => h3 h.1), if_neg (by omega)]
                exact trun_cn T v now w h x r hx hk (decide_eq_true hn) hj hg' b1 b2 (by omega) (by omega) d1 (by omega) c1 (by omega) t1 (by omega) hn.1 hn.2 x0 x0' x1 x1' x2 x2' x3 x3' h1b (decide_eq_true (by omega)) _ rfl e0 (decide_eq_false h3)
            · rw [if_neg h1]
              have h1b : (x.f1 == 1) = false := by simpa using h1
              by_cases h1' : 0 < x.f1
              · have e : lessJ x = ⟨x.f0 - 1, x.f1 - 1, x.f2, x.f3⟩ := by unfold lessJ; rw [if_pos h1']
                rw [e]
                exact trun_on1 T v now w h x r hx hk (decide_eq_true hn) hj hg' b1 b2 (by omega) (by omega) d1 (by omega) c1 (by omega) t1 (by omega) hn.1 hn.2 x0 x0' x1 x1' x2 x2' x3 x3' h1b (decide_eq_true h1') _ rfl e0
              · have e : lessJ x = ⟨x.f0 - 1, x.f1, x.f2, x.f3⟩ := by unfold lessJ; rw [if_neg h1']
                rw [e]
                exact trun_on0 T v now w h x r hx hk (decide_eq_true hn) hj hg' b1 b2 (by omega) (by omega) d1 (by omega) c1 (by omega) t1 (by omega) hn.1 hn.2 x0 x0' x1 x1' x2 x2' x3 x3' h1b (decide_eq_false h1') _ rfl e0
    · have e : runF T now = (zT, 0, 0, 1) := by unfold runF; rw [if_neg (by simp [hk]), if_pos hn]
      rw [e]
      exact (trun_arg T v now w h hk (decide_eq_false hn)).mono fun e w' h => ⟨nilS, h.1, Kd.R_nil _ _ _ _ _, h.2⟩

end Go.Proofs.Ytdilediiofenmaa
