/- Of the text SN1 only what this claim needs (shake.py, this repo's). -/
import Derived.Test.YtdilediiofenmaaZSKm
import Derived.Test.YtdilediiofenmaaZRd
set_option linter.unusedVariables false
set_option linter.unusedSimpArgs false
namespace Go.Proofs.Ytdilediiofenmaa
open Go.RowKit
open Go.Proofs.YtdilediiofenmaaW.PrintWords (Kd Drawn0 Kept rd rdOf)
open Go.Proofs.Ytdilediiofenmaa.PSlackRuns
set_option maxRecDepth 100000
attribute [local go_sem] ta_yes

theorem nil_create (z : Int) (w : World) : Calls Try.prog 9 #[.pointer none, .int .i64 z] w fun e w' => e = .returned (.tuple #[.int .i64 0, .iface 82 (.int .i64 50)]) ∧ w = w' := by
  go_enter Try.func9, Try.ntmps9
  go_wp2
  go_ret2
  exact ⟨rfl, rfl⟩
theorem nil_of (z : Int) (w : World) : Calls Try.prog 16 #[.pointer none, .int .i64 z] w fun e w' => e = .returned (.tuple #[zT.v nilS, .iface 82 (.int .i64 50)]) ∧ Below w.heap.size w w' := by
  go_enter Try.func16, Try.ntmps16
  go_wp2
  have HB := (Below.refl w.heap.size w).alloc (Nat.le_refl _) (.cells #[.int .i64 0, .slice none 0 0, .int .i64 0, .int .i64 0, .int .i64 0, .int .i64 0, .int .i64 0, .int .i64 0] 56)
  refine bodyPost_ret (v := .tuple #[zT.v nilS, .iface 82 (.int .i64 50)]) (by simp [results, Try.f16, go_sem]) rfl ⟨rfl, ?_⟩
  with_reducible exact HB
theorem nil_next (w : World) : Calls Try.prog 17 #[.pointer none] w fun e w' => e = .returned (.tuple #[.int .i64 0, .bool false]) ∧ w = w' := by
  go_enter Try.func17, Try.ntmps17
  go_wp2_with fail
  go_step3
  go_wp2_with fail
  try rw [Exit.noGoto_ret]
  go_ret2
  exact ⟨rfl, rfl⟩
theorem nil_give (z : Int) (w : World) : Calls Try.prog 11 #[.pointer none, .int .i64 z] w fun e w' => e = .returned (.tuple #[.int .i64 0, .int .i64 0, .int .i64 0, .bool false]) ∧ w = w' := by
  go_enter Try.func11, Try.ntmps11
  go_wp2_with fail
  refine (nil_next _).mono ?_
  rintro e w_ ⟨rfl, rfl⟩
  go_wp2
  (try simp only [Exit.inBlock, Exit.then]); refine bodyPost_ret (results_tmp4 rfl _ _ _) rfl ?_
  exact ⟨rfl, rfl⟩
theorem nil_save (w : World) : Calls Try.prog 18 #[.pointer none] w fun e w' => e = .returned (.tuple #[.slice none 0 0, .slice none 0 0, .slice none 0 0, .int .i64 0]) ∧ w = w' := by
  go_enter Try.func18, Try.ntmps18
  go_wp2
  (try simp only [Exit.inBlock, Exit.then]); refine bodyPost_ret (results_tmp4 rfl _ _ _) rfl ?_
  exact ⟨rfl, rfl⟩
theorem nil_remove (z : Int) (w : World) : Calls Try.prog 20 #[.pointer none, .int .i64 z] w fun e w' => e = .returned (.iface 82 (.int .i64 50)) ∧ w = w' := by
  go_enter Try.func20, Try.ntmps20
  go_wp2
  go_ret
  exact ⟨rfl, rfl⟩
theorem nil_list (w : World) : Calls Try.prog 21 #[.pointer none] w fun e w' => e = .returned (.slice none 0 0) ∧ w = w' := by
  go_enter Try.func21, Try.ntmps21
  go_wp2
  go_ret
  exact ⟨rfl, rfl⟩
theorem nil_ready (w : World) : Calls Try.prog 22 #[.pointer none] w fun e w' => e = .returned (.bool false) ∧ w = w' := by
  go_enter Try.func22, Try.ntmps22
  go_wp2_with fail
  refine (nil_next _).mono ?_
  rintro e w_ ⟨rfl, rfl⟩
  go_wp2
  go_ret
  exact ⟨rfl, rfl⟩
theorem nil_twin (w : World) : Calls Try.prog 23 #[.pointer none] w fun e w' => e = .returned (.pointer none) ∧ w = w' := by
  go_enter Try.func23, Try.ntmps23
  go_wp2
  go_ret
  exact ⟨rfl, rfl⟩
theorem nil_push (z now : Int) (y : Jb) (w : World) : Calls Try.prog 10 #[.pointer none, .int .i64 z, jv y, .int .i64 now] w fun e w' => e = .returned (.iface 82 (.int .i64 50)) ∧ Below w.heap.size w w' := by
  go_enter Try.func10, Try.ntmps10
  go_wp2_with fail
  refine (nil_of z _).mono ?_
  rintro e w1 ⟨rfl, hb⟩
  have hs := hb.size
  have HB := Lib.hid (below_alloc (below_call ((Below.refl w.heap.size w).alloc (Nat.le_refl _) (.cells #[.int .i64 y.f0, .int .i64 y.f1, .int .i64 y.f2, .int .i64 y.f3] 32)) (Nat.le_refl _) hb) (by simp at hs; omega) (.cells #[.int .i64 0, .slice none 0 0, .int .i64 0, .int .i64 0, .int .i64 0, .int .i64 0, .int .i64 0, .int .i64 0] 56))
  clear hb hs
  go_wp2
  go_ret
  exact ⟨rfl, HB.out⟩

set_option maxHeartbeats 4000000 in
theorem snone_ok (h k0 i0 p0 : Int) (y : Jb) (w : World) :
    Calls Try.prog 5 #[.int .i64 h, .agg #[.int .i64 k0, .int .i64 i0, .int .i64 p0, .int .i64 y.f0, .int .i64 y.f1, .int .i64 y.f2, .int .i64 y.f3]] w fun e w' => e = .returned (.bool true) ∧ Below w.heap.size w w' := by
  obtain ⟨b0, hb0⟩ : ∃ b, b = w.heap.size := ⟨_, rfl⟩
  obtain ⟨W0, hW0⟩ : ∃ W, W = w.alloc (.cells #[.int .i64 k0, .int .i64 i0, .int .i64 p0, .int .i64 y.f0, .int .i64 y.f1, .int .i64 y.f2, .int .i64 y.f3] 49) := ⟨_, rfl⟩
  have hB0 : Below w.heap.size w W0 := by rw [hW0]; exact (Below.refl _ w).alloc (Nat.le_refl _) _
  have hk0 : W0.heap[b0]? = some (.cells #[.int .i64 k0, .int .i64 i0, .int .i64 p0, .int .i64 y.f0, .int .i64 y.f1, .int .i64 y.f2, .int .i64 y.f3] 49 (0, 0)) := by rw [hW0, hb0]; exact heap_alloc_new w _
  have cells : ∀ W, Below W0.heap.size W0 W → W.cell? ⟨b0, 1, none⟩ = some (.int .i64 i0) ∧ W.cell? ⟨b0, 2, none⟩ = some (.int .i64 p0) ∧ W.cell? ⟨b0, 3, none⟩ = some (.int .i64 y.f0) ∧ W.cell? ⟨b0, 4, none⟩ = some (.int .i64 y.f1) ∧ W.cell? ⟨b0, 5, none⟩ = some (.int .i64 y.f2) ∧ W.cell? ⟨b0, 6, none⟩ = some (.int .i64 y.f3) := by
    intro W hB
    have := blk8b' hk0 hB
    refine ⟨?_, ?_, ?_, ?_, ?_, ?_⟩ <;> simp [World.cell?, this]
  have HC := Lib.hid cells
  have HB0 := Lib.hid hB0
  have HW0 := Lib.hid hW0
  have Hb0 := Lib.hid hb0
  obtain ⟨a1, a2, a3, a4, a5, a6⟩ := cells W0 (Below.refl _ _)
  clear cells hB0 hk0 hW0 hb0
  go_enter Try.func5, Try.ntmps5
  go_wp2_with fail
  rw [← HW0.out, ← Hb0.out]
  refine (nil_create _ _).mono ?_
  rintro e w_ ⟨rfl, rfl⟩
  go_wp2_with fail
  refine (nil_of _ _).mono ?_
  rintro e w1 ⟨rfl, hb1⟩
  obtain ⟨W2, hW2⟩ : ∃ W, W = w1.alloc (.cells #[.int .i64 0, .slice none 0 0, .int .i64 0, .int .i64 0, .int .i64 0, .int .i64 0, .int .i64 0, .int .i64 0] 56) := ⟨_, rfl⟩
  have hb2 : Below W0.heap.size W0 W2 := by rw [hW2]; exact below_alloc hb1 (Nat.le_refl _) _
  have HB2 := Lib.hid hb2
  have HW2 := Lib.hid hW2
  obtain ⟨x1, x2, x3, x4, x5, x6⟩ := HC.out W2 hb2
  clear hb1 hb2 hW2 a1 a2 a3 a4 a5 a6
  go_wp2_with fail
  rw [← HW2.out]
  refine (nil_next _).mono ?_
  rintro e w_ ⟨rfl, rfl⟩
  go_wp2_with fail
  refine (nil_give _ _).mono ?_
  rintro e w_ ⟨rfl, rfl⟩
  go_wp2_with fail
  refine (nil_save _).mono ?_
  rintro e w_ ⟨rfl, rfl⟩
  go_wp2_with fail
  refine (snum_err 50 _).mono ?_
  rintro e w_ ⟨rfl, rfl⟩
  go_wp2_with fail
  refine (snum_err 50 _).mono ?_
  rintro e w_ ⟨rfl, rfl⟩
  go_wp2_with fail
  refine (nil_remove _ _).mono ?_
  rintro e w_ ⟨rfl, rfl⟩
  go_wp2_with fail
  refine (snum_err 50 _).mono ?_
  rintro e w_ ⟨rfl, rfl⟩
  go_wp2_with fail
  refine (nil_push _ _ y _).mono ?_
  rintro e w3 ⟨rfl, hb3⟩
  have HB3 := Lib.hid (below_call HB2.out (Nat.le_refl _) hb3)
  clear hb3
  go_wp2_with fail
  refine (snum_err 50 _).mono ?_
  rintro e w_ ⟨rfl, rfl⟩
  go_wp2_with fail
  refine (nil_list _).mono ?_
  rintro e w_ ⟨rfl, rfl⟩
  go_wp2_with fail
  refine (nil_ready _).mono ?_
  rintro e w_ ⟨rfl, rfl⟩
  go_wp2_with fail
  refine (nil_twin _).mono ?_
  rintro e w_ ⟨rfl, rfl⟩
  go_wp2_with fail
  refine (works14_ok _).mono ?_
  rintro e w4 ⟨rfl, hb4⟩
  have HB4 := Lib.hid (below_call (below_call HB0.out (Nat.le_refl _) HB3.out) (Nat.le_refl _) hb4)
  clear hb4
  go_wp2
  go_ret
  exact ⟨rfl, HB4.out⟩

theorem snone_rd {cs : Array Value} (h : Int) {w : World} (h0 : Rd49 w cs.toList) :
    Calls Try.prog 5 #[.int .i64 h, .agg cs] w fun e w' => e = .returned (.bool true) ∧ Below w.heap.size w w' := by
  obtain ⟨c0, c1, c2, c3, e, ⟨k0, rfl, -⟩, ⟨i0, rfl, -⟩, ⟨p0, rfl, -⟩, ⟨d0, d1, d2, d3, rfl, ⟨f0, rfl, -⟩, ⟨f1, rfl, -⟩, ⟨f2, rfl, -⟩, ⟨f3, rfl, -⟩⟩⟩ := h0
  obtain rfl : cs = #[.int .i64 k0, .int .i64 i0, .int .i64 p0, .int .i64 f0, .int .i64 f1, .int .i64 f2, .int .i64 f3] := Array.toList_inj.1 e
  exact snone_ok h k0 i0 p0 ⟨f0, f1, f2, f3⟩ w

end Go.Proofs.Ytdilediiofenmaa
