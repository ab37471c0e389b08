/- titheref12.Run, by contract: errors. Printed by gen_tkq.py (this repo's). -/
import Derived.Test.YtkfjlkpickeobaaDoorTmD
set_option linter.unusedVariables false
set_option linter.unusedSimpArgs false
namespace Go.Proofs.YtkfjlkpickeobaaDoor
open Go.RowKit
open Go.Proofs.YtkfjlkpickeobaaDoorW.PrintWords (Kd Drawn0 Kept rd rdOf)
open Go.Proofs.YtkfjlkpickeobaaDoorW.PrintMore (max2_int max_two)
open Go.Proofs.YtkfjlkpickeobaaDoor.PTaskRuns
set_option maxRecDepth 100000

set_option maxHeartbeats 4000000 in
theorem rrun_state (T : Tk) (v : Value) (now : Int) (w : World) (h : TR w v T.js) (hl : T.js.length ≤ 9223372036854775800) (hk : T.okB = false) :
    Calls Tryd.prog 17 #[T.v v, .int .i64 now] w fun e w' => e = .returned (.tuple #[zT.v nilS, .int .i64 0, .int .i64 0, .int .i64 270]) ∧ Below w.heap.size w w' := by
  obtain ⟨W0, hW0⟩ : ∃ y, y = (w.alloc (.cells #[.int .i64 T.p, v, .int .i64 T.g, .int .i64 T.o, .int .i64 T.l, .int .i64 T.d, .int .i64 T.c, .int .i64 T.t] 26)).alloc (.cells #[.int .i64 0, .slice none 0 0, .int .i64 0, .int .i64 0, .int .i64 0, .int .i64 0, .int .i64 0, .int .i64 0] 26) := ⟨_, rfl⟩
  have hx : BX w.heap.size w W0 [T.cs (v), zT.cs nilS] := by rw [hW0]; exact BX.new w [T.cs (v), zT.cs nilS]
  have HX := Lib.hid hx
  have HW0 := Lib.hid hW0
  have HR := Lib.hid h
  have HK := Lib.hid hk
  clear h hx hW0 hk
  go_enter Tryd.func17, Tryd.ntmps17
  go_wp2_with fail
  rw [← HW0.out]
  generalize hbw : w.heap.size = bw at *
  refine (rvalid_no T v W0 (HR.out.below (by rw [hbw]; exact HX.out.be)) hl HK.out).mono ?_
  rintro e w1 ⟨rfl, hb⟩
  have HX1 := Lib.hid (HX.out.call hb)
  clear hb HX
  obtain ⟨r0, r1, r2, r3, r4, r5, r6, r7⟩ := HX1.out.t8 (T := zT) (b := bw + 1) 1 rfl rfl
  obtain ⟨f0, f1, f2, f3, f4, f5, f6, f7⟩ := HX1.out.f8 (b := bw + 1) 1 rfl rfl
  go_wp2
  refine bodyPost_ret (v := .tuple #[zT.v nilS, .int .i64 0, .int .i64 0, .int .i64 270]) (by simp [results, Tryd.results17, go_sem, r0, r1, r2, r3, r4, r5, r6, r7]) rfl ⟨rfl, ?_⟩
  rw [hbw]
  exact below_set8 HX1.out.be (by omega) _ _ _ _ _ _ _ _
set_option maxHeartbeats 4000000 in
theorem rrun_lo (T : Tk) (v : Value) (now : Int) (w : World) (h : TR w v T.js) (hk : T.okB = true) (hn : decide (now < 0) = true) :
    Calls Tryd.prog 17 #[T.v v, .int .i64 now] w fun e w' => e = .returned (.tuple #[zT.v nilS, .int .i64 0, .int .i64 0, .int .i64 1]) ∧ Below w.heap.size w w' := by
  obtain ⟨W0, hW0⟩ : ∃ y, y = (w.alloc (.cells #[.int .i64 T.p, v, .int .i64 T.g, .int .i64 T.o, .int .i64 T.l, .int .i64 T.d, .int .i64 T.c, .int .i64 T.t] 26)).alloc (.cells #[.int .i64 0, .slice none 0 0, .int .i64 0, .int .i64 0, .int .i64 0, .int .i64 0, .int .i64 0, .int .i64 0] 26) := ⟨_, rfl⟩
  have hx : BX w.heap.size w W0 [T.cs (v), zT.cs nilS] := by rw [hW0]; exact BX.new w [T.cs (v), zT.cs nilS]
  have HX := Lib.hid hx
  have HW0 := Lib.hid hW0
  have HR := Lib.hid h
  have HK := Lib.hid hk
  clear h hx hW0 hk
  go_enter Tryd.func17, Tryd.ntmps17
  go_wp2_with fail
  rw [← HW0.out]
  generalize hbw : w.heap.size = bw at *
  refine (rvalid_yes T (v) W0 (HR.out.below (by rw [hbw]; exact HX.out.be)) HK.out).mono ?_
  rintro e w1 ⟨rfl, hb⟩
  have HX1 := Lib.hid (HX.out.call hb)
  clear hb HX
  obtain ⟨r0, r1, r2, r3, r4, r5, r6, r7⟩ := HX1.out.t8 (T := zT) (b := bw + 1) 1 rfl rfl
  obtain ⟨f0, f1, f2, f3, f4, f5, f6, f7⟩ := HX1.out.f8 (b := bw + 1) 1 rfl rfl
  go_wp2
  refine bodyPost_ret (v := .tuple #[zT.v nilS, .int .i64 0, .int .i64 0, .int .i64 1]) (by simp [results, Tryd.results17, go_sem, r0, r1, r2, r3, r4, r5, r6, r7]) rfl ⟨rfl, ?_⟩
  rw [hbw]
  exact below_set8 HX1.out.be (by omega) _ _ _ _ _ _ _ _
set_option maxHeartbeats 4000000 in
theorem rrun_hi (T : Tk) (v : Value) (now : Int) (w : World) (h : TR w v T.js) (hk : T.okB = true) (hn : decide (now < 0) = false) (hn2 : decide (1073741824 ≤ now) = true) :
    Calls Tryd.prog 17 #[T.v v, .int .i64 now] w fun e w' => e = .returned (.tuple #[zT.v nilS, .int .i64 0, .int .i64 0, .int .i64 1]) ∧ Below w.heap.size w w' := by
  obtain ⟨W0, hW0⟩ : ∃ y, y = (w.alloc (.cells #[.int .i64 T.p, v, .int .i64 T.g, .int .i64 T.o, .int .i64 T.l, .int .i64 T.d, .int .i64 T.c, .int .i64 T.t] 26)).alloc (.cells #[.int .i64 0, .slice none 0 0, .int .i64 0, .int .i64 0, .int .i64 0, .int .i64 0, .int .i64 0, .int .i64 0] 26) := ⟨_, rfl⟩
  have hx : BX w.heap.size w W0 [T.cs (v), zT.cs nilS] := by rw [hW0]; exact BX.new w [T.cs (v), zT.cs nilS]
  have HX := Lib.hid hx
  have HW0 := Lib.hid hW0
  have HR := Lib.hid h
  have HK := Lib.hid hk
  clear h hx hW0 hk
  go_enter Tryd.func17, Tryd.ntmps17
  go_wp2_with fail
  rw [← HW0.out]
  generalize hbw : w.heap.size = bw at *
  refine (rvalid_yes T (v) W0 (HR.out.below (by rw [hbw]; exact HX.out.be)) HK.out).mono ?_
  rintro e w1 ⟨rfl, hb⟩
  have HX1 := Lib.hid (HX.out.call hb)
  clear hb HX
  obtain ⟨r0, r1, r2, r3, r4, r5, r6, r7⟩ := HX1.out.t8 (T := zT) (b := bw + 1) 1 rfl rfl
  obtain ⟨f0, f1, f2, f3, f4, f5, f6, f7⟩ := HX1.out.f8 (b := bw + 1) 1 rfl rfl
  go_wp2
  refine bodyPost_ret (v := .tuple #[zT.v nilS, .int .i64 0, .int .i64 0, .int .i64 1]) (by simp [results, Tryd.results17, go_sem, r0, r1, r2, r3, r4, r5, r6, r7]) rfl ⟨rfl, ?_⟩
  rw [hbw]
  exact below_set8 HX1.out.be (by omega) _ _ _ _ _ _ _ _
set_option maxHeartbeats 4000000 in
theorem rrun_none (T : Tk) (v : Value) (now : Int) (w : World) (h : TR w v T.js) (hk : T.okB = true) (hn : decide (now < 0) = false) (hn2 : decide (1073741824 ≤ now) = false) (hj : decide (0 < T.js.length) = false) :
    Calls Tryd.prog 17 #[T.v v, .int .i64 now] w fun e w' => e = .returned (.tuple #[zT.v nilS, .int .i64 0, .int .i64 0, .int .i64 50]) ∧ Below w.heap.size w w' := by
  have HJ := Lib.hid hj
  clear hj
  obtain ⟨W0, hW0⟩ : ∃ y, y = (w.alloc (.cells #[.int .i64 T.p, v, .int .i64 T.g, .int .i64 T.o, .int .i64 T.l, .int .i64 T.d, .int .i64 T.c, .int .i64 T.t] 26)).alloc (.cells #[.int .i64 0, .slice none 0 0, .int .i64 0, .int .i64 0, .int .i64 0, .int .i64 0, .int .i64 0, .int .i64 0] 26) := ⟨_, rfl⟩
  have hx : BX w.heap.size w W0 [T.cs (v), zT.cs nilS] := by rw [hW0]; exact BX.new w [T.cs (v), zT.cs nilS]
  have HX := Lib.hid hx
  have HW0 := Lib.hid hW0
  have HR := Lib.hid h
  have HK := Lib.hid hk
  clear h hx hW0 hk
  go_enter Tryd.func17, Tryd.ntmps17
  go_wp2_with fail
  rw [← HW0.out]
  generalize hbw : w.heap.size = bw at *
  refine (rvalid_yes T (v) W0 (HR.out.below (by rw [hbw]; exact HX.out.be)) HK.out).mono ?_
  rintro e w1 ⟨rfl, hb⟩
  have HX1 := Lib.hid (HX.out.call hb)
  clear hb HX
  obtain ⟨t0, t1, t2, t3, t4, t5, t6, t7⟩ := HX1.out.t8 (T := T) (b := bw) 0 rfl rfl
  go_wp2_with fail
  refine (rready_c T (v) false w1 (HR.out.below (by rw [hbw]; exact HX1.out.be)) HJ.out).mono ?_
  rintro e w3 ⟨rfl, hb⟩
  have HX3 := Lib.hid (HX1.out.call hb)
  clear hb HX1 t0 t1 t2 t3 t4 t5 t6 t7
  obtain ⟨r0, r1, r2, r3, r4, r5, r6, r7⟩ := HX3.out.t8 (T := zT) (b := bw + 1) 1 rfl rfl
  obtain ⟨f0, f1, f2, f3, f4, f5, f6, f7⟩ := HX3.out.f8 (b := bw + 1) 1 rfl rfl
  go_wp2
  refine bodyPost_ret (v := .tuple #[zT.v nilS, .int .i64 0, .int .i64 0, .int .i64 50]) (by simp [results, Tryd.results17, go_sem, r0, r1, r2, r3, r4, r5, r6, r7]) rfl ⟨rfl, ?_⟩
  rw [hbw]
  exact below_set8 HX3.out.be (by omega) _ _ _ _ _ _ _ _
set_option maxHeartbeats 4000000 in
theorem rrun_time (T : Tk) (v : Value) (now : Int) (w : World) (h : TR w v T.js) (hk : T.okB = true) (hn : decide (now < 0) = false) (hn2 : decide (1073741824 ≤ now) = false) (hj : decide (0 < T.js.length) = true) (hg : (T.g == 1073741824) = true) :
    Calls Tryd.prog 17 #[T.v v, .int .i64 now] w fun e w' => e = .returned (.tuple #[zT.v nilS, .int .i64 0, .int .i64 0, .int .i64 60]) ∧ Below w.heap.size w w' := by
  have HJ := Lib.hid hj
  clear hj
  obtain ⟨W0, hW0⟩ : ∃ y, y = (w.alloc (.cells #[.int .i64 T.p, v, .int .i64 T.g, .int .i64 T.o, .int .i64 T.l, .int .i64 T.d, .int .i64 T.c, .int .i64 T.t] 26)).alloc (.cells #[.int .i64 0, .slice none 0 0, .int .i64 0, .int .i64 0, .int .i64 0, .int .i64 0, .int .i64 0, .int .i64 0] 26) := ⟨_, rfl⟩
  have hx : BX w.heap.size w W0 [T.cs (v), zT.cs nilS] := by rw [hW0]; exact BX.new w [T.cs (v), zT.cs nilS]
  have HX := Lib.hid hx
  have HW0 := Lib.hid hW0
  have HR := Lib.hid h
  have HK := Lib.hid hk
  clear h hx hW0 hk
  go_enter Tryd.func17, Tryd.ntmps17
  go_wp2_with fail
  rw [← HW0.out]
  generalize hbw : w.heap.size = bw at *
  refine (rvalid_yes T (v) W0 (HR.out.below (by rw [hbw]; exact HX.out.be)) HK.out).mono ?_
  rintro e w1 ⟨rfl, hb⟩
  have HX1 := Lib.hid (HX.out.call hb)
  clear hb HX
  obtain ⟨t0, t1, t2, t3, t4, t5, t6, t7⟩ := HX1.out.t8 (T := T) (b := bw) 0 rfl rfl
  go_wp2_with fail
  refine (rready_c T (v) true w1 (HR.out.below (by rw [hbw]; exact HX1.out.be)) HJ.out).mono ?_
  rintro e w3 ⟨rfl, hb⟩
  have HX3 := Lib.hid (HX1.out.call hb)
  clear hb HX1 t0 t1 t2 t3 t4 t5 t6 t7
  obtain ⟨t0, t1, t2, t3, t4, t5, t6, t7⟩ := HX3.out.t8 (T := T) (b := bw) 0 rfl rfl
  obtain ⟨r0, r1, r2, r3, r4, r5, r6, r7⟩ := HX3.out.t8 (T := zT) (b := bw + 1) 1 rfl rfl
  obtain ⟨f0, f1, f2, f3, f4, f5, f6, f7⟩ := HX3.out.f8 (b := bw + 1) 1 rfl rfl
  go_wp2
  refine bodyPost_ret (v := .tuple #[zT.v nilS, .int .i64 0, .int .i64 0, .int .i64 60]) (by simp [results, Tryd.results17, go_sem, r0, r1, r2, r3, r4, r5, r6, r7]) rfl ⟨rfl, ?_⟩
  rw [hbw]
  exact below_set8 HX3.out.be (by omega) _ _ _ _ _ _ _ _

/-- The first job of a row of its own, laid anew. -/
theorem R_set0 {W : World} {base g n c : Nat} {ok : Nat → Prop} {x x' : Jb} {r : List Jb} (h : kJ.R 28 W base ok (.slice (some ⟨g, 0, none⟩) n c) (x :: r)) :
    kJ.R 28 ((((W.setCell ⟨g, 0, none⟩ (.int .i64 x'.f0)).setCell ⟨g, 1, none⟩ (.int .i64 x'.f1)).setCell ⟨g, 2, none⟩ (.int .i64 x'.f2)).setCell ⟨g, 3, none⟩ (.int .i64 x'.f3)) base ok (.slice (some ⟨g, 0, none⟩) n c) (x' :: r) := by
  have hn : n = (x :: r).length := (Kd.R_reads' h).1
  obtain ⟨c0, h1, h2, h3, h4⟩ := Kd.R_elem h zJ (0 : Int) (by omega) (by simp at hn; omega)
  have h2' := k28_openM h2
  subst h2'
  have r0 := Kd.R_seg (okp := fun _ => False) h (0 : Int) (by omega) (by simp at hn; omega) (c := cJ x) (seg := cJ x') (j := 0) rfl
    (fun j' u hu => h3 j' u hu) (by show 0 + 4 ≤ 4; omega) (x' := x') (k28_mkM _ _ _ _) (fun k f => f.elim)
  have e : W.setCells g ((0 : Int).toNat * kJ.sz + 0) (cJ x') = ((((W.setCell ⟨g, 0, none⟩ (.int .i64 x'.f0)).setCell ⟨g, 1, none⟩ (.int .i64 x'.f1)).setCell ⟨g, 2, none⟩ (.int .i64 x'.f2)).setCell ⟨g, 3, none⟩ (.int .i64 x'.f3)) := rfl
  rw [e] at r0
  exact r0.1
theorem R_cells0 {W : World} {base g n c : Nat} {ok : Nat → Prop} {x : Jb} {r : List Jb} (h : kJ.R 28 W base ok (.slice (some ⟨g, 0, none⟩) n c) (x :: r)) :
    (W.cell? ⟨g, 0, none⟩ = some (.int .i64 x.f0) ∧ W.cell? ⟨g, 1, none⟩ = some (.int .i64 x.f1) ∧ W.cell? ⟨g, 2, none⟩ = some (.int .i64 x.f2) ∧ W.cell? ⟨g, 3, none⟩ = some (.int .i64 x.f3)) ∧
    (W.frozen? ⟨g, 0, none⟩ = false ∧ W.frozen? ⟨g, 1, none⟩ = false ∧ W.frozen? ⟨g, 2, none⟩ = false ∧ W.frozen? ⟨g, 3, none⟩ = false) := by
  have hn : n = (x :: r).length := (Kd.R_reads' h).1
  obtain ⟨c0, h1, h2, h3, h4⟩ := Kd.R_elem h zJ (0 : Int) (by omega) (by simp at hn; omega)
  have h2' := k28_openM h2
  subst h2'
  exact ⟨⟨by simpa using h3 0 _ rfl, by simpa using h3 1 _ rfl, by simpa using h3 2 _ rfl, by simpa using h3 3 _ rfl⟩, ⟨by simpa using h4 0, by simpa using h4 1, by simpa using h4 2, by simpa using h4 3⟩⟩
theorem TR_drop1 {W : World} {base g n c : Nat} {ok : Nat → Prop} {x : Jb} {r : List Jb} (h : kJ.R 28 W base ok (.slice (some ⟨g, 0, none⟩) n c) (x :: r)) (hc : ¬ c = 1) (hn : n = r.length + 1) : TR W (.slice (some ⟨g, 4, none⟩) (n - 1) (c - 1)) r := by
  obtain ⟨-, k3, k4⟩ := Kd.R_reads' h
  have k5 := Kd.C_drop (m := 1) (c := c) k4 (by simp) (by simp; omega)
  rw [if_neg hc] at k5
  exact ⟨some ⟨g, 4, none⟩, c - 1, by rw [show n - 1 = r.length by omega], by omega, k5⟩

end Go.Proofs.YtkfjlkpickeobaaDoor
