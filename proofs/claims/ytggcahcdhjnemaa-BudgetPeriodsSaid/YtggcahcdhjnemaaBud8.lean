/- Reserved of the program and of the reference; the reference's Resize, by contract. -/
import Derived.Test.YtggcahcdhjnemaaBud3
import Derived.Test.YtggcahcdhjnemaaRef1
set_option linter.unusedVariables false
set_option linter.unusedSimpArgs false
namespace Go.Proofs.Ytggcahcdhjnemaa
open Go.RowKit
attribute [local go_sem high] eqRes

theorem mx2 (k k' : IntKind) (x y : Int) : Builtin.max2 (.int k x) (.int k' y) = pure (.int k (if x < y then y else x)) := by simp only [Builtin.max2, gt_iff_lt]
theorem mxT (ats : Array TypeId) (ty : TypeId) (a b : Value) : Builtin.max_ ats ty #[a, b] = (Builtin.max2 a b >>= fun s => pure s) := by simp only [Builtin.max_, List.foldlM_cons, List.foldlM_nil]
attribute [local go_sem] mx2 mxT

/-- What is reserved: the larger one of both shares. -/
def heldOf (mq mp xq xp : Int) : Int := if xq = 0 ∧ xp = 0 then unitsOf mq mp else if unitsOf mq mp < unitsOf xq xp then unitsOf xq xp else unitsOf mq mp
theorem held_none (mq mp : Int) : heldOf mq mp 0 0 = unitsOf mq mp := by simp [heldOf]
theorem held_some {mq mp xq xp : Int} (h : (xq == 0) = false) : heldOf mq mp xq xp = if unitsOf mq mp < unitsOf xq xp then unitsOf xq xp else unitsOf mq mp := by
  have : ¬ xq = 0 := by simpa using h
  simp [heldOf, this]
theorem units_pos {q p : Int} (h : Vld q p) : 1 ≤ unitsOf q p := by
  have h1 := h.lo; have h2 := h.le
  unfold unitsOf
  exact Int.le_ediv_of_mul_le (by omega) (by omega)

set_option maxHeartbeats 4000000 in
set_option maxRecDepth 100000 in
theorem res_bad (mq mp xq xp : Int) (dy : Bool) (lf st en : Int) (w : World) (h : ¬ BV mq mp xq xp lf st en) :
    Calls Try.prog 12 #[bud mq mp xq xp dy lf st en] w fun e w' => e = .returned (.tuple #[.int .i64 0, .iface 47 (.int .i64 270)]) ∧ Below w.heap.size w w' := by
  have HB : Below w.heap.size w (w.alloc (.cells #[.int .i64 mq, .int .i64 mp, .int .i64 xq, .int .i64 xp, .bool dy, .int .i64 lf, .int .i64 st, .int .i64 en] 35)) := ((Below.refl _ w).alloc (by simp) _)
  have k0_0 : (w.alloc (.cells #[.int .i64 mq, .int .i64 mp, .int .i64 xq, .int .i64 xp, .bool dy, .int .i64 lf, .int .i64 st, .int .i64 en] 35)).cell? ⟨w.heap.size, 0, none⟩ = some (.int .i64 mq) := by simp
  have k0_1 : (w.alloc (.cells #[.int .i64 mq, .int .i64 mp, .int .i64 xq, .int .i64 xp, .bool dy, .int .i64 lf, .int .i64 st, .int .i64 en] 35)).cell? ⟨w.heap.size, 1, none⟩ = some (.int .i64 mp) := by simp
  have k0_2 : (w.alloc (.cells #[.int .i64 mq, .int .i64 mp, .int .i64 xq, .int .i64 xp, .bool dy, .int .i64 lf, .int .i64 st, .int .i64 en] 35)).cell? ⟨w.heap.size, 2, none⟩ = some (.int .i64 xq) := by simp
  have k0_3 : (w.alloc (.cells #[.int .i64 mq, .int .i64 mp, .int .i64 xq, .int .i64 xp, .bool dy, .int .i64 lf, .int .i64 st, .int .i64 en] 35)).cell? ⟨w.heap.size, 3, none⟩ = some (.int .i64 xp) := by simp
  have k0_4 : (w.alloc (.cells #[.int .i64 mq, .int .i64 mp, .int .i64 xq, .int .i64 xp, .bool dy, .int .i64 lf, .int .i64 st, .int .i64 en] 35)).cell? ⟨w.heap.size, 4, none⟩ = some (.bool dy) := by simp
  have k0_5 : (w.alloc (.cells #[.int .i64 mq, .int .i64 mp, .int .i64 xq, .int .i64 xp, .bool dy, .int .i64 lf, .int .i64 st, .int .i64 en] 35)).cell? ⟨w.heap.size, 5, none⟩ = some (.int .i64 lf) := by simp
  have k0_6 : (w.alloc (.cells #[.int .i64 mq, .int .i64 mp, .int .i64 xq, .int .i64 xp, .bool dy, .int .i64 lf, .int .i64 st, .int .i64 en] 35)).cell? ⟨w.heap.size, 6, none⟩ = some (.int .i64 st) := by simp
  have k0_7 : (w.alloc (.cells #[.int .i64 mq, .int .i64 mp, .int .i64 xq, .int .i64 xp, .bool dy, .int .i64 lf, .int .i64 st, .int .i64 en] 35)).cell? ⟨w.heap.size, 7, none⟩ = some (.int .i64 en) := by simp
  go_enter Try.func12, Try.ntmps12
  go_wp2_with fail
  refine (bvalid_bad mq mp xq xp dy lf st en _ h).mono ?_
  rintro e w1 ⟨rfl, hb1⟩
  replace k0_0 := keep hb1 k0_0
  replace k0_1 := keep hb1 k0_1
  replace k0_2 := keep hb1 k0_2
  replace k0_3 := keep hb1 k0_3
  replace k0_4 := keep hb1 k0_4
  replace k0_5 := keep hb1 k0_5
  replace k0_6 := keep hb1 k0_6
  replace k0_7 := keep hb1 k0_7
  replace HB := below_call HB (Nat.le_refl _) hb1
  clear hb1
  go_wp2
  go_ret2
  exact ⟨rfl, HB⟩

set_option maxHeartbeats 4000000 in
set_option maxRecDepth 100000 in
theorem res_ok0 (mq mp : Int) (dy : Bool) (lf st en : Int) (w : World) (h : BV mq mp 0 0 lf st en) :
    Calls Try.prog 12 #[bud mq mp 0 0 dy lf st en] w fun e w' => e = .returned (.tuple #[.int .i64 (unitsOf mq mp), .nilIface]) ∧ Below w.heap.size w w' := by
  have hv := h.1
  have hu := units_pos hv
  have HB : Below w.heap.size w (w.alloc (.cells #[.int .i64 mq, .int .i64 mp, .int .i64 0, .int .i64 0, .bool dy, .int .i64 lf, .int .i64 st, .int .i64 en] 35)) := ((Below.refl _ w).alloc (by simp) _)
  have k0_0 : (w.alloc (.cells #[.int .i64 mq, .int .i64 mp, .int .i64 0, .int .i64 0, .bool dy, .int .i64 lf, .int .i64 st, .int .i64 en] 35)).cell? ⟨w.heap.size, 0, none⟩ = some (.int .i64 mq) := by simp
  have k0_1 : (w.alloc (.cells #[.int .i64 mq, .int .i64 mp, .int .i64 0, .int .i64 0, .bool dy, .int .i64 lf, .int .i64 st, .int .i64 en] 35)).cell? ⟨w.heap.size, 1, none⟩ = some (.int .i64 mp) := by simp
  have k0_2 : (w.alloc (.cells #[.int .i64 mq, .int .i64 mp, .int .i64 0, .int .i64 0, .bool dy, .int .i64 lf, .int .i64 st, .int .i64 en] 35)).cell? ⟨w.heap.size, 2, none⟩ = some (.int .i64 0) := by simp
  have k0_3 : (w.alloc (.cells #[.int .i64 mq, .int .i64 mp, .int .i64 0, .int .i64 0, .bool dy, .int .i64 lf, .int .i64 st, .int .i64 en] 35)).cell? ⟨w.heap.size, 3, none⟩ = some (.int .i64 0) := by simp
  have k0_4 : (w.alloc (.cells #[.int .i64 mq, .int .i64 mp, .int .i64 0, .int .i64 0, .bool dy, .int .i64 lf, .int .i64 st, .int .i64 en] 35)).cell? ⟨w.heap.size, 4, none⟩ = some (.bool dy) := by simp
  have k0_5 : (w.alloc (.cells #[.int .i64 mq, .int .i64 mp, .int .i64 0, .int .i64 0, .bool dy, .int .i64 lf, .int .i64 st, .int .i64 en] 35)).cell? ⟨w.heap.size, 5, none⟩ = some (.int .i64 lf) := by simp
  have k0_6 : (w.alloc (.cells #[.int .i64 mq, .int .i64 mp, .int .i64 0, .int .i64 0, .bool dy, .int .i64 lf, .int .i64 st, .int .i64 en] 35)).cell? ⟨w.heap.size, 6, none⟩ = some (.int .i64 st) := by simp
  have k0_7 : (w.alloc (.cells #[.int .i64 mq, .int .i64 mp, .int .i64 0, .int .i64 0, .bool dy, .int .i64 lf, .int .i64 st, .int .i64 en] 35)).cell? ⟨w.heap.size, 7, none⟩ = some (.int .i64 en) := by simp
  go_enter Try.func12, Try.ntmps12
  go_wp2_with fail
  refine (bvalid_ok mq mp 0 0 dy lf st en _ h).mono ?_
  rintro e w1 ⟨rfl, hb1⟩
  replace k0_0 := keep hb1 k0_0
  replace k0_1 := keep hb1 k0_1
  replace k0_2 := keep hb1 k0_2
  replace k0_3 := keep hb1 k0_3
  replace k0_4 := keep hb1 k0_4
  replace k0_5 := keep hb1 k0_5
  replace k0_6 := keep hb1 k0_6
  replace k0_7 := keep hb1 k0_7
  replace HB := below_call HB (Nat.le_refl _) hb1
  clear hb1
  clear h
  go_wp2_with fail
  refine (share_ok mq mp _ hv).mono ?_
  rintro e w2 ⟨rfl, hb2⟩
  replace k0_0 := keep hb2 k0_0
  replace k0_1 := keep hb2 k0_1
  replace k0_2 := keep hb2 k0_2
  replace k0_3 := keep hb2 k0_3
  replace k0_4 := keep hb2 k0_4
  replace k0_5 := keep hb2 k0_5
  replace k0_6 := keep hb2 k0_6
  replace k0_7 := keep hb2 k0_7
  replace HB := below_call HB (Nat.le_refl _) hb2
  clear hb2
  go_wp2_with fail
  refine (share_bad 0 0 _ (by decide)).mono ?_
  rintro e w3 ⟨rfl, hb3⟩
  replace k0_0 := keep hb3 k0_0
  replace k0_1 := keep hb3 k0_1
  replace k0_2 := keep hb3 k0_2
  replace k0_3 := keep hb3 k0_3
  replace k0_4 := keep hb3 k0_4
  replace k0_5 := keep hb3 k0_5
  replace k0_6 := keep hb3 k0_6
  replace k0_7 := keep hb3 k0_7
  replace HB := below_call HB (Nat.le_refl _) hb3
  clear hb3
  go_wp2
  go_ret2
  exact ⟨rfl, HB⟩

set_option maxHeartbeats 4000000 in
set_option maxRecDepth 100000 in
theorem res_ok1 (mq mp xq xp : Int) (dy : Bool) (lf st en : Int) (w : World) (h : BV mq mp xq xp lf st en) (hx : Vld xq xp) :
    Calls Try.prog 12 #[bud mq mp xq xp dy lf st en] w fun e w' => e = .returned (.tuple #[.int .i64 (if unitsOf mq mp < unitsOf xq xp then unitsOf xq xp else unitsOf mq mp), .nilIface]) ∧ Below w.heap.size w w' := by
  have hv := h.1
  have HB : Below w.heap.size w (w.alloc (.cells #[.int .i64 mq, .int .i64 mp, .int .i64 xq, .int .i64 xp, .bool dy, .int .i64 lf, .int .i64 st, .int .i64 en] 35)) := ((Below.refl _ w).alloc (by simp) _)
  have k0_0 : (w.alloc (.cells #[.int .i64 mq, .int .i64 mp, .int .i64 xq, .int .i64 xp, .bool dy, .int .i64 lf, .int .i64 st, .int .i64 en] 35)).cell? ⟨w.heap.size, 0, none⟩ = some (.int .i64 mq) := by simp
  have k0_1 : (w.alloc (.cells #[.int .i64 mq, .int .i64 mp, .int .i64 xq, .int .i64 xp, .bool dy, .int .i64 lf, .int .i64 st, .int .i64 en] 35)).cell? ⟨w.heap.size, 1, none⟩ = some (.int .i64 mp) := by simp
  have k0_2 : (w.alloc (.cells #[.int .i64 mq, .int .i64 mp, .int .i64 xq, .int .i64 xp, .bool dy, .int .i64 lf, .int .i64 st, .int .i64 en] 35)).cell? ⟨w.heap.size, 2, none⟩ = some (.int .i64 xq) := by simp
  have k0_3 : (w.alloc (.cells #[.int .i64 mq, .int .i64 mp, .int .i64 xq, .int .i64 xp, .bool dy, .int .i64 lf, .int .i64 st, .int .i64 en] 35)).cell? ⟨w.heap.size, 3, none⟩ = some (.int .i64 xp) := by simp
  have k0_4 : (w.alloc (.cells #[.int .i64 mq, .int .i64 mp, .int .i64 xq, .int .i64 xp, .bool dy, .int .i64 lf, .int .i64 st, .int .i64 en] 35)).cell? ⟨w.heap.size, 4, none⟩ = some (.bool dy) := by simp
  have k0_5 : (w.alloc (.cells #[.int .i64 mq, .int .i64 mp, .int .i64 xq, .int .i64 xp, .bool dy, .int .i64 lf, .int .i64 st, .int .i64 en] 35)).cell? ⟨w.heap.size, 5, none⟩ = some (.int .i64 lf) := by simp
  have k0_6 : (w.alloc (.cells #[.int .i64 mq, .int .i64 mp, .int .i64 xq, .int .i64 xp, .bool dy, .int .i64 lf, .int .i64 st, .int .i64 en] 35)).cell? ⟨w.heap.size, 6, none⟩ = some (.int .i64 st) := by simp
  have k0_7 : (w.alloc (.cells #[.int .i64 mq, .int .i64 mp, .int .i64 xq, .int .i64 xp, .bool dy, .int .i64 lf, .int .i64 st, .int .i64 en] 35)).cell? ⟨w.heap.size, 7, none⟩ = some (.int .i64 en) := by simp
  go_enter Try.func12, Try.ntmps12
  go_wp2_with fail
  refine (bvalid_ok mq mp xq xp dy lf st en _ h).mono ?_
  rintro e w1 ⟨rfl, hb1⟩
  replace k0_0 := keep hb1 k0_0
  replace k0_1 := keep hb1 k0_1
  replace k0_2 := keep hb1 k0_2
  replace k0_3 := keep hb1 k0_3
  replace k0_4 := keep hb1 k0_4
  replace k0_5 := keep hb1 k0_5
  replace k0_6 := keep hb1 k0_6
  replace k0_7 := keep hb1 k0_7
  replace HB := below_call HB (Nat.le_refl _) hb1
  clear hb1
  clear h
  go_wp2_with fail
  refine (share_ok mq mp _ hv).mono ?_
  rintro e w2 ⟨rfl, hb2⟩
  replace k0_0 := keep hb2 k0_0
  replace k0_1 := keep hb2 k0_1
  replace k0_2 := keep hb2 k0_2
  replace k0_3 := keep hb2 k0_3
  replace k0_4 := keep hb2 k0_4
  replace k0_5 := keep hb2 k0_5
  replace k0_6 := keep hb2 k0_6
  replace k0_7 := keep hb2 k0_7
  replace HB := below_call HB (Nat.le_refl _) hb2
  clear hb2
  go_wp2_with fail
  refine (share_ok xq xp _ hx).mono ?_
  rintro e w3 ⟨rfl, hb3⟩
  replace k0_0 := keep hb3 k0_0
  replace k0_1 := keep hb3 k0_1
  replace k0_2 := keep hb3 k0_2
  replace k0_3 := keep hb3 k0_3
  replace k0_4 := keep hb3 k0_4
  replace k0_5 := keep hb3 k0_5
  replace k0_6 := keep hb3 k0_6
  replace k0_7 := keep hb3 k0_7
  replace HB := below_call HB (Nat.le_refl _) hb3
  clear hb3
  go_wp2
  all_goals
    go_ret2
    refine ⟨?_, HB⟩
    first | rfl | (rw [if_pos (by assumption)]) | (rw [if_neg (by omega)])






end Go.Proofs.Ytggcahcdhjnemaa
