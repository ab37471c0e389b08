/- The reference's Valid of budgets, by contract. -/
import Derived.Test.YtggcahcdhjnemaaDoorBud1
set_option linter.unusedVariables false
set_option linter.unusedSimpArgs false
namespace Go.Proofs.YtggcahcdhjnemaaDoor
open Go.RowKit
attribute [local go_sem high] eqRes

set_option maxHeartbeats 2000000 in
set_option maxRecDepth 100000 in
theorem rbvalid_ok (nq np xq xp : Int) (dy : Bool) (lf st en : Int) (w : World) (h : BV nq np xq xp lf st en) :
    Calls Tryd.prog 29 #[bud nq np xq xp dy lf st en] w fun e w' => e = .returned (.int .i64 0) ∧ Below w.heap.size w w' := by
  obtain ⟨hv, hn, t1, t2, t3, t4, rfl⟩ := h
  have c1 : decide (lf < 0) = false := by simp; omega
  have c2 : decide (nq < lf) = false := by simp; omega
  have c3 : decide (st < 0) = false := by simp; omega
  have c4 : decide (1073741824 < st) = false := by simp; omega
  have v1 := hv.lo; have v2 := hv.top; have v3 := hv.le
  rcases hn with ⟨rfl, rfl⟩ | ⟨z, n1, v⟩ | ⟨z, rfl, n1, v⟩
  · skip
    have HB : Below w.heap.size w (w.alloc (.cells #[.int .i64 nq, .int .i64 np, .int .i64 0, .int .i64 0, .bool dy, .int .i64 lf, .int .i64 st, .int .i64 (st + np)] 30)) := ((Below.refl _ w).alloc (by simp) _)
    have k0_0 : (w.alloc (.cells #[.int .i64 nq, .int .i64 np, .int .i64 0, .int .i64 0, .bool dy, .int .i64 lf, .int .i64 st, .int .i64 (st + np)] 30)).cell? ⟨w.heap.size, 0, none⟩ = some (.int .i64 nq) := by simp
    have k0_1 : (w.alloc (.cells #[.int .i64 nq, .int .i64 np, .int .i64 0, .int .i64 0, .bool dy, .int .i64 lf, .int .i64 st, .int .i64 (st + np)] 30)).cell? ⟨w.heap.size, 1, none⟩ = some (.int .i64 np) := by simp
    have k0_2 : (w.alloc (.cells #[.int .i64 nq, .int .i64 np, .int .i64 0, .int .i64 0, .bool dy, .int .i64 lf, .int .i64 st, .int .i64 (st + np)] 30)).cell? ⟨w.heap.size, 2, none⟩ = some (.int .i64 0) := by simp
    have k0_3 : (w.alloc (.cells #[.int .i64 nq, .int .i64 np, .int .i64 0, .int .i64 0, .bool dy, .int .i64 lf, .int .i64 st, .int .i64 (st + np)] 30)).cell? ⟨w.heap.size, 3, none⟩ = some (.int .i64 0) := by simp
    have k0_4 : (w.alloc (.cells #[.int .i64 nq, .int .i64 np, .int .i64 0, .int .i64 0, .bool dy, .int .i64 lf, .int .i64 st, .int .i64 (st + np)] 30)).cell? ⟨w.heap.size, 4, none⟩ = some (.bool dy) := by simp
    have k0_5 : (w.alloc (.cells #[.int .i64 nq, .int .i64 np, .int .i64 0, .int .i64 0, .bool dy, .int .i64 lf, .int .i64 st, .int .i64 (st + np)] 30)).cell? ⟨w.heap.size, 5, none⟩ = some (.int .i64 lf) := by simp
    have k0_6 : (w.alloc (.cells #[.int .i64 nq, .int .i64 np, .int .i64 0, .int .i64 0, .bool dy, .int .i64 lf, .int .i64 st, .int .i64 (st + np)] 30)).cell? ⟨w.heap.size, 6, none⟩ = some (.int .i64 st) := by simp
    have k0_7 : (w.alloc (.cells #[.int .i64 nq, .int .i64 np, .int .i64 0, .int .i64 0, .bool dy, .int .i64 lf, .int .i64 st, .int .i64 (st + np)] 30)).cell? ⟨w.heap.size, 7, none⟩ = some (.int .i64 (st + np)) := by simp
    go_enter Tryd.func29, Tryd.ntmps29
    go_wp2_with fail
    refine (rvalid_ok nq np _ hv).mono ?_
    rintro e w1 ⟨rfl, hb1⟩
    replace k0_0 := keep hb1 k0_0
    replace k0_1 := keep hb1 k0_1
    replace k0_2 := keep hb1 k0_2
    replace k0_3 := keep hb1 k0_3
    replace k0_4 := keep hb1 k0_4
    replace k0_5 := keep hb1 k0_5
    replace k0_6 := keep hb1 k0_6
    replace k0_7 := keep hb1 k0_7
    replace HB := below_call HB (Nat.le_refl _) hb1
    clear hb1
    go_wp2
    go_ret
    exact ⟨rfl, HB⟩
  · skip
    have HB : Below w.heap.size w (w.alloc (.cells #[.int .i64 nq, .int .i64 np, .int .i64 xq, .int .i64 xp, .bool dy, .int .i64 lf, .int .i64 st, .int .i64 (st + np)] 30)) := ((Below.refl _ w).alloc (by simp) _)
    have k0_0 : (w.alloc (.cells #[.int .i64 nq, .int .i64 np, .int .i64 xq, .int .i64 xp, .bool dy, .int .i64 lf, .int .i64 st, .int .i64 (st + np)] 30)).cell? ⟨w.heap.size, 0, none⟩ = some (.int .i64 nq) := by simp
    have k0_1 : (w.alloc (.cells #[.int .i64 nq, .int .i64 np, .int .i64 xq, .int .i64 xp, .bool dy, .int .i64 lf, .int .i64 st, .int .i64 (st + np)] 30)).cell? ⟨w.heap.size, 1, none⟩ = some (.int .i64 np) := by simp
    have k0_2 : (w.alloc (.cells #[.int .i64 nq, .int .i64 np, .int .i64 xq, .int .i64 xp, .bool dy, .int .i64 lf, .int .i64 st, .int .i64 (st + np)] 30)).cell? ⟨w.heap.size, 2, none⟩ = some (.int .i64 xq) := by simp
    have k0_3 : (w.alloc (.cells #[.int .i64 nq, .int .i64 np, .int .i64 xq, .int .i64 xp, .bool dy, .int .i64 lf, .int .i64 st, .int .i64 (st + np)] 30)).cell? ⟨w.heap.size, 3, none⟩ = some (.int .i64 xp) := by simp
    have k0_4 : (w.alloc (.cells #[.int .i64 nq, .int .i64 np, .int .i64 xq, .int .i64 xp, .bool dy, .int .i64 lf, .int .i64 st, .int .i64 (st + np)] 30)).cell? ⟨w.heap.size, 4, none⟩ = some (.bool dy) := by simp
    have k0_5 : (w.alloc (.cells #[.int .i64 nq, .int .i64 np, .int .i64 xq, .int .i64 xp, .bool dy, .int .i64 lf, .int .i64 st, .int .i64 (st + np)] 30)).cell? ⟨w.heap.size, 5, none⟩ = some (.int .i64 lf) := by simp
    have k0_6 : (w.alloc (.cells #[.int .i64 nq, .int .i64 np, .int .i64 xq, .int .i64 xp, .bool dy, .int .i64 lf, .int .i64 st, .int .i64 (st + np)] 30)).cell? ⟨w.heap.size, 6, none⟩ = some (.int .i64 st) := by simp
    have k0_7 : (w.alloc (.cells #[.int .i64 nq, .int .i64 np, .int .i64 xq, .int .i64 xp, .bool dy, .int .i64 lf, .int .i64 st, .int .i64 (st + np)] 30)).cell? ⟨w.heap.size, 7, none⟩ = some (.int .i64 (st + np)) := by simp
    go_enter Tryd.func29, Tryd.ntmps29
    go_wp2_with fail
    refine (rvalid_ok xq xp _ v).mono ?_
    rintro e w1 ⟨rfl, hb1⟩
    replace k0_0 := keep hb1 k0_0
    replace k0_1 := keep hb1 k0_1
    replace k0_2 := keep hb1 k0_2
    replace k0_3 := keep hb1 k0_3
    replace k0_4 := keep hb1 k0_4
    replace k0_5 := keep hb1 k0_5
    replace k0_6 := keep hb1 k0_6
    replace k0_7 := keep hb1 k0_7
    replace HB := below_call HB (Nat.le_refl _) hb1
    clear hb1
    go_wp2_with fail
    refine (rvalid_ok nq np _ hv).mono ?_
    rintro e w2 ⟨rfl, hb2⟩
    replace k0_0 := keep hb2 k0_0
    replace k0_1 := keep hb2 k0_1
    replace k0_2 := keep hb2 k0_2
    replace k0_3 := keep hb2 k0_3
    replace k0_4 := keep hb2 k0_4
    replace k0_5 := keep hb2 k0_5
    replace k0_6 := keep hb2 k0_6
    replace k0_7 := keep hb2 k0_7
    replace HB := below_call HB (Nat.le_refl _) hb2
    clear hb2
    go_wp2
    go_ret
    exact ⟨rfl, HB⟩
  · skip
    have HB : Below w.heap.size w (w.alloc (.cells #[.int .i64 xq, .int .i64 np, .int .i64 xq, .int .i64 xp, .bool dy, .int .i64 lf, .int .i64 st, .int .i64 (st + np)] 30)) := ((Below.refl _ w).alloc (by simp) _)
    have k0_0 : (w.alloc (.cells #[.int .i64 xq, .int .i64 np, .int .i64 xq, .int .i64 xp, .bool dy, .int .i64 lf, .int .i64 st, .int .i64 (st + np)] 30)).cell? ⟨w.heap.size, 0, none⟩ = some (.int .i64 xq) := by simp
    have k0_1 : (w.alloc (.cells #[.int .i64 xq, .int .i64 np, .int .i64 xq, .int .i64 xp, .bool dy, .int .i64 lf, .int .i64 st, .int .i64 (st + np)] 30)).cell? ⟨w.heap.size, 1, none⟩ = some (.int .i64 np) := by simp
    have k0_2 : (w.alloc (.cells #[.int .i64 xq, .int .i64 np, .int .i64 xq, .int .i64 xp, .bool dy, .int .i64 lf, .int .i64 st, .int .i64 (st + np)] 30)).cell? ⟨w.heap.size, 2, none⟩ = some (.int .i64 xq) := by simp
    have k0_3 : (w.alloc (.cells #[.int .i64 xq, .int .i64 np, .int .i64 xq, .int .i64 xp, .bool dy, .int .i64 lf, .int .i64 st, .int .i64 (st + np)] 30)).cell? ⟨w.heap.size, 3, none⟩ = some (.int .i64 xp) := by simp
    have k0_4 : (w.alloc (.cells #[.int .i64 xq, .int .i64 np, .int .i64 xq, .int .i64 xp, .bool dy, .int .i64 lf, .int .i64 st, .int .i64 (st + np)] 30)).cell? ⟨w.heap.size, 4, none⟩ = some (.bool dy) := by simp
    have k0_5 : (w.alloc (.cells #[.int .i64 xq, .int .i64 np, .int .i64 xq, .int .i64 xp, .bool dy, .int .i64 lf, .int .i64 st, .int .i64 (st + np)] 30)).cell? ⟨w.heap.size, 5, none⟩ = some (.int .i64 lf) := by simp
    have k0_6 : (w.alloc (.cells #[.int .i64 xq, .int .i64 np, .int .i64 xq, .int .i64 xp, .bool dy, .int .i64 lf, .int .i64 st, .int .i64 (st + np)] 30)).cell? ⟨w.heap.size, 6, none⟩ = some (.int .i64 st) := by simp
    have k0_7 : (w.alloc (.cells #[.int .i64 xq, .int .i64 np, .int .i64 xq, .int .i64 xp, .bool dy, .int .i64 lf, .int .i64 st, .int .i64 (st + np)] 30)).cell? ⟨w.heap.size, 7, none⟩ = some (.int .i64 (st + np)) := by simp
    go_enter Tryd.func29, Tryd.ntmps29
    go_wp2_with fail
    refine (rvalid_ok xq xp _ v).mono ?_
    rintro e w1 ⟨rfl, hb1⟩
    replace k0_0 := keep hb1 k0_0
    replace k0_1 := keep hb1 k0_1
    replace k0_2 := keep hb1 k0_2
    replace k0_3 := keep hb1 k0_3
    replace k0_4 := keep hb1 k0_4
    replace k0_5 := keep hb1 k0_5
    replace k0_6 := keep hb1 k0_6
    replace k0_7 := keep hb1 k0_7
    replace HB := below_call HB (Nat.le_refl _) hb1
    clear hb1
    go_wp2_with fail
    refine (rvalid_ok xq np _ hv).mono ?_
    rintro e w2 ⟨rfl, hb2⟩
    replace k0_0 := keep hb2 k0_0
    replace k0_1 := keep hb2 k0_1
    replace k0_2 := keep hb2 k0_2
    replace k0_3 := keep hb2 k0_3
    replace k0_4 := keep hb2 k0_4
    replace k0_5 := keep hb2 k0_5
    replace k0_6 := keep hb2 k0_6
    replace k0_7 := keep hb2 k0_7
    replace HB := below_call HB (Nat.le_refl _) hb2
    clear hb2
    go_wp2
    go_ret
    exact ⟨rfl, HB⟩

set_option maxHeartbeats 4000000 in
set_option maxRecDepth 100000 in
theorem rbvalid_bad1 (nq np xq xp : Int) (dy : Bool) (lf st en : Int) (w : World) (hv : ¬ Vld nq np) :
    Calls Tryd.prog 29 #[bud nq np xq xp dy lf st en] w fun e w' => e = .returned (.int .i64 270) ∧ Below w.heap.size w w' := by
  have hp : (xq = 0 ∧ xp = 0) ∨ (xq == 0) = false ∨ (xq = 0 ∧ (xp == 0) = false) := by
    by_cases a : xq = 0
    · by_cases b : xp = 0
      · exact Or.inl ⟨a, b⟩
      · exact Or.inr (Or.inr ⟨a, by simpa using b⟩)
    · exact Or.inr (Or.inl (by simpa using a))
  rcases hp with ⟨rfl, rfl⟩ | z | ⟨rfl, z⟩
  · skip
    have HB : Below w.heap.size w (w.alloc (.cells #[.int .i64 nq, .int .i64 np, .int .i64 0, .int .i64 0, .bool dy, .int .i64 lf, .int .i64 st, .int .i64 en] 30)) := ((Below.refl _ w).alloc (by simp) _)
    have k0_0 : (w.alloc (.cells #[.int .i64 nq, .int .i64 np, .int .i64 0, .int .i64 0, .bool dy, .int .i64 lf, .int .i64 st, .int .i64 en] 30)).cell? ⟨w.heap.size, 0, none⟩ = some (.int .i64 nq) := by simp
    have k0_1 : (w.alloc (.cells #[.int .i64 nq, .int .i64 np, .int .i64 0, .int .i64 0, .bool dy, .int .i64 lf, .int .i64 st, .int .i64 en] 30)).cell? ⟨w.heap.size, 1, none⟩ = some (.int .i64 np) := by simp
    have k0_2 : (w.alloc (.cells #[.int .i64 nq, .int .i64 np, .int .i64 0, .int .i64 0, .bool dy, .int .i64 lf, .int .i64 st, .int .i64 en] 30)).cell? ⟨w.heap.size, 2, none⟩ = some (.int .i64 0) := by simp
    have k0_3 : (w.alloc (.cells #[.int .i64 nq, .int .i64 np, .int .i64 0, .int .i64 0, .bool dy, .int .i64 lf, .int .i64 st, .int .i64 en] 30)).cell? ⟨w.heap.size, 3, none⟩ = some (.int .i64 0) := by simp
    have k0_4 : (w.alloc (.cells #[.int .i64 nq, .int .i64 np, .int .i64 0, .int .i64 0, .bool dy, .int .i64 lf, .int .i64 st, .int .i64 en] 30)).cell? ⟨w.heap.size, 4, none⟩ = some (.bool dy) := by simp
    have k0_5 : (w.alloc (.cells #[.int .i64 nq, .int .i64 np, .int .i64 0, .int .i64 0, .bool dy, .int .i64 lf, .int .i64 st, .int .i64 en] 30)).cell? ⟨w.heap.size, 5, none⟩ = some (.int .i64 lf) := by simp
    have k0_6 : (w.alloc (.cells #[.int .i64 nq, .int .i64 np, .int .i64 0, .int .i64 0, .bool dy, .int .i64 lf, .int .i64 st, .int .i64 en] 30)).cell? ⟨w.heap.size, 6, none⟩ = some (.int .i64 st) := by simp
    have k0_7 : (w.alloc (.cells #[.int .i64 nq, .int .i64 np, .int .i64 0, .int .i64 0, .bool dy, .int .i64 lf, .int .i64 st, .int .i64 en] 30)).cell? ⟨w.heap.size, 7, none⟩ = some (.int .i64 en) := by simp
    go_enter Tryd.func29, Tryd.ntmps29
    go_wp2_with fail
    refine (rvalid_bad nq np _ hv).mono ?_
    rintro e w1 ⟨rfl, hb1⟩
    replace k0_0 := keep hb1 k0_0
    replace k0_1 := keep hb1 k0_1
    replace k0_2 := keep hb1 k0_2
    replace k0_3 := keep hb1 k0_3
    replace k0_4 := keep hb1 k0_4
    replace k0_5 := keep hb1 k0_5
    replace k0_6 := keep hb1 k0_6
    replace k0_7 := keep hb1 k0_7
    replace HB := below_call HB (Nat.le_refl _) hb1
    clear hb1
    go_wp2
    go_ret
    exact ⟨rfl, HB⟩
  · by_cases v : Vld xq xp
    · skip
      have HB : Below w.heap.size w (w.alloc (.cells #[.int .i64 nq, .int .i64 np, .int .i64 xq, .int .i64 xp, .bool dy, .int .i64 lf, .int .i64 st, .int .i64 en] 30)) := ((Below.refl _ w).alloc (by simp) _)
      have k0_0 : (w.alloc (.cells #[.int .i64 nq, .int .i64 np, .int .i64 xq, .int .i64 xp, .bool dy, .int .i64 lf, .int .i64 st, .int .i64 en] 30)).cell? ⟨w.heap.size, 0, none⟩ = some (.int .i64 nq) := by simp
      have k0_1 : (w.alloc (.cells #[.int .i64 nq, .int .i64 np, .int .i64 xq, .int .i64 xp, .bool dy, .int .i64 lf, .int .i64 st, .int .i64 en] 30)).cell? ⟨w.heap.size, 1, none⟩ = some (.int .i64 np) := by simp
      have k0_2 : (w.alloc (.cells #[.int .i64 nq, .int .i64 np, .int .i64 xq, .int .i64 xp, .bool dy, .int .i64 lf, .int .i64 st, .int .i64 en] 30)).cell? ⟨w.heap.size, 2, none⟩ = some (.int .i64 xq) := by simp
      have k0_3 : (w.alloc (.cells #[.int .i64 nq, .int .i64 np, .int .i64 xq, .int .i64 xp, .bool dy, .int .i64 lf, .int .i64 st, .int .i64 en] 30)).cell? ⟨w.heap.size, 3, none⟩ = some (.int .i64 xp) := by simp
      have k0_4 : (w.alloc (.cells #[.int .i64 nq, .int .i64 np, .int .i64 xq, .int .i64 xp, .bool dy, .int .i64 lf, .int .i64 st, .int .i64 en] 30)).cell? ⟨w.heap.size, 4, none⟩ = some (.bool dy) := by simp
      have k0_5 : (w.alloc (.cells #[.int .i64 nq, .int .i64 np, .int .i64 xq, .int .i64 xp, .bool dy, .int .i64 lf, .int .i64 st, .int .i64 en] 30)).cell? ⟨w.heap.size, 5, none⟩ = some (.int .i64 lf) := by simp
      have k0_6 : (w.alloc (.cells #[.int .i64 nq, .int .i64 np, .int .i64 xq, .int .i64 xp, .bool dy, .int .i64 lf, .int .i64 st, .int .i64 en] 30)).cell? ⟨w.heap.size, 6, none⟩ = some (.int .i64 st) := by simp
      have k0_7 : (w.alloc (.cells #[.int .i64 nq, .int .i64 np, .int .i64 xq, .int .i64 xp, .bool dy, .int .i64 lf, .int .i64 st, .int .i64 en] 30)).cell? ⟨w.heap.size, 7, none⟩ = some (.int .i64 en) := by simp
      go_enter Tryd.func29, Tryd.ntmps29
      go_wp2_with fail
      refine (rvalid_ok xq xp _ v).mono ?_
      rintro e w1 ⟨rfl, hb1⟩
      replace k0_0 := keep hb1 k0_0
      replace k0_1 := keep hb1 k0_1
      replace k0_2 := keep hb1 k0_2
      replace k0_3 := keep hb1 k0_3
      replace k0_4 := keep hb1 k0_4
      replace k0_5 := keep hb1 k0_5
      replace k0_6 := keep hb1 k0_6
      replace k0_7 := keep hb1 k0_7
      replace HB := below_call HB (Nat.le_refl _) hb1
      clear hb1
      go_wp2_with fail
      refine (rvalid_bad nq np _ hv).mono ?_
      rintro e w2 ⟨rfl, hb2⟩
      replace k0_0 := keep hb2 k0_0
      replace k0_1 := keep hb2 k0_1
      replace k0_2 := keep hb2 k0_2
      replace k0_3 := keep hb2 k0_3
      replace k0_4 := keep hb2 k0_4
      replace k0_5 := keep hb2 k0_5
      replace k0_6 := keep hb2 k0_6
      replace k0_7 := keep hb2 k0_7
      replace HB := below_call HB (Nat.le_refl _) hb2
      clear hb2
      go_wp2
      go_ret
      exact ⟨rfl, HB⟩
    · skip
      have HB : Below w.heap.size w (w.alloc (.cells #[.int .i64 nq, .int .i64 np, .int .i64 xq, .int .i64 xp, .bool dy, .int .i64 lf, .int .i64 st, .int .i64 en] 30)) := ((Below.refl _ w).alloc (by simp) _)
      have k0_0 : (w.alloc (.cells #[.int .i64 nq, .int .i64 np, .int .i64 xq, .int .i64 xp, .bool dy, .int .i64 lf, .int .i64 st, .int .i64 en] 30)).cell? ⟨w.heap.size, 0, none⟩ = some (.int .i64 nq) := by simp
      have k0_1 : (w.alloc (.cells #[.int .i64 nq, .int .i64 np, .int .i64 xq, .int .i64 xp, .bool dy, .int .i64 lf, .int .i64 st, .int .i64 en] 30)).cell? ⟨w.heap.size, 1, none⟩ = some (.int .i64 np) := by simp
      have k0_2 : (w.alloc (.cells #[.int .i64 nq, .int .i64 np, .int .i64 xq, .int .i64 xp, .bool dy, .int .i64 lf, .int .i64 st, .int .i64 en] 30)).cell? ⟨w.heap.size, 2, none⟩ = some (.int .i64 xq) := by simp
      have k0_3 : (w.alloc (.cells #[.int .i64 nq, .int .i64 np, .int .i64 xq, .int .i64 xp, .bool dy, .int .i64 lf, .int .i64 st, .int .i64 en] 30)).cell? ⟨w.heap.size, 3, none⟩ = some (.int .i64 xp) := by simp
      have k0_4 : (w.alloc (.cells #[.int .i64 nq, .int .i64 np, .int .i64 xq, .int .i64 xp, .bool dy, .int .i64 lf, .int .i64 st, .int .i64 en] 30)).cell? ⟨w.heap.size, 4, none⟩ = some (.bool dy) := by simp
      have k0_5 : (w.alloc (.cells #[.int .i64 nq, .int .i64 np, .int .i64 xq, .int .i64 xp, .bool dy, .int .i64 lf, .int .i64 st, .int .i64 en] 30)).cell? ⟨w.heap.size, 5, none⟩ = some (.int .i64 lf) := by simp
      have k0_6 : (w.alloc (.cells #[.int .i64 nq, .int .i64 np, .int .i64 xq, .int .i64 xp, .bool dy, .int .i64 lf, .int .i64 st, .int .i64 en] 30)).cell? ⟨w.heap.size, 6, none⟩ = some (.int .i64 st) := by simp
      have k0_7 : (w.alloc (.cells #[.int .i64 nq, .int .i64 np, .int .i64 xq, .int .i64 xp, .bool dy, .int .i64 lf, .int .i64 st, .int .i64 en] 30)).cell? ⟨w.heap.size, 7, none⟩ = some (.int .i64 en) := by simp
      go_enter Tryd.func29, Tryd.ntmps29
      go_wp2_with fail
      refine (rvalid_bad xq xp _ v).mono ?_
      rintro e w1 ⟨rfl, hb1⟩
      replace k0_0 := keep hb1 k0_0
      replace k0_1 := keep hb1 k0_1
      replace k0_2 := keep hb1 k0_2
      replace k0_3 := keep hb1 k0_3
      replace k0_4 := keep hb1 k0_4
      replace k0_5 := keep hb1 k0_5
      replace k0_6 := keep hb1 k0_6
      replace k0_7 := keep hb1 k0_7
      replace HB := below_call HB (Nat.le_refl _) hb1
      clear hb1
      go_wp2_with fail
      refine (rvalid_bad nq np _ hv).mono ?_
      rintro e w2 ⟨rfl, hb2⟩
      replace k0_0 := keep hb2 k0_0
      replace k0_1 := keep hb2 k0_1
      replace k0_2 := keep hb2 k0_2
      replace k0_3 := keep hb2 k0_3
      replace k0_4 := keep hb2 k0_4
      replace k0_5 := keep hb2 k0_5
      replace k0_6 := keep hb2 k0_6
      replace k0_7 := keep hb2 k0_7
      replace HB := below_call HB (Nat.le_refl _) hb2
      clear hb2
      go_wp2
      go_ret
      exact ⟨rfl, HB⟩
  · have v : ¬ Vld 0 xp := fun k => by have := k.lo; omega
    have HB : Below w.heap.size w (w.alloc (.cells #[.int .i64 nq, .int .i64 np, .int .i64 0, .int .i64 xp, .bool dy, .int .i64 lf, .int .i64 st, .int .i64 en] 30)) := ((Below.refl _ w).alloc (by simp) _)
    have k0_0 : (w.alloc (.cells #[.int .i64 nq, .int .i64 np, .int .i64 0, .int .i64 xp, .bool dy, .int .i64 lf, .int .i64 st, .int .i64 en] 30)).cell? ⟨w.heap.size, 0, none⟩ = some (.int .i64 nq) := by simp
    have k0_1 : (w.alloc (.cells #[.int .i64 nq, .int .i64 np, .int .i64 0, .int .i64 xp, .bool dy, .int .i64 lf, .int .i64 st, .int .i64 en] 30)).cell? ⟨w.heap.size, 1, none⟩ = some (.int .i64 np) := by simp
    have k0_2 : (w.alloc (.cells #[.int .i64 nq, .int .i64 np, .int .i64 0, .int .i64 xp, .bool dy, .int .i64 lf, .int .i64 st, .int .i64 en] 30)).cell? ⟨w.heap.size, 2, none⟩ = some (.int .i64 0) := by simp
    have k0_3 : (w.alloc (.cells #[.int .i64 nq, .int .i64 np, .int .i64 0, .int .i64 xp, .bool dy, .int .i64 lf, .int .i64 st, .int .i64 en] 30)).cell? ⟨w.heap.size, 3, none⟩ = some (.int .i64 xp) := by simp
    have k0_4 : (w.alloc (.cells #[.int .i64 nq, .int .i64 np, .int .i64 0, .int .i64 xp, .bool dy, .int .i64 lf, .int .i64 st, .int .i64 en] 30)).cell? ⟨w.heap.size, 4, none⟩ = some (.bool dy) := by simp
    have k0_5 : (w.alloc (.cells #[.int .i64 nq, .int .i64 np, .int .i64 0, .int .i64 xp, .bool dy, .int .i64 lf, .int .i64 st, .int .i64 en] 30)).cell? ⟨w.heap.size, 5, none⟩ = some (.int .i64 lf) := by simp
    have k0_6 : (w.alloc (.cells #[.int .i64 nq, .int .i64 np, .int .i64 0, .int .i64 xp, .bool dy, .int .i64 lf, .int .i64 st, .int .i64 en] 30)).cell? ⟨w.heap.size, 6, none⟩ = some (.int .i64 st) := by simp
    have k0_7 : (w.alloc (.cells #[.int .i64 nq, .int .i64 np, .int .i64 0, .int .i64 xp, .bool dy, .int .i64 lf, .int .i64 st, .int .i64 en] 30)).cell? ⟨w.heap.size, 7, none⟩ = some (.int .i64 en) := by simp
    go_enter Tryd.func29, Tryd.ntmps29
    go_wp2_with fail
    refine (rvalid_bad 0 xp _ v).mono ?_
    rintro e w1 ⟨rfl, hb1⟩
    replace k0_0 := keep hb1 k0_0
    replace k0_1 := keep hb1 k0_1
    replace k0_2 := keep hb1 k0_2
    replace k0_3 := keep hb1 k0_3
    replace k0_4 := keep hb1 k0_4
    replace k0_5 := keep hb1 k0_5
    replace k0_6 := keep hb1 k0_6
    replace k0_7 := keep hb1 k0_7
    replace HB := below_call HB (Nat.le_refl _) hb1
    clear hb1
    go_wp2_with fail
    refine (rvalid_bad nq np _ hv).mono ?_
    rintro e w2 ⟨rfl, hb2⟩
    replace k0_0 := keep hb2 k0_0
    replace k0_1 := keep hb2 k0_1
    replace k0_2 := keep hb2 k0_2
    replace k0_3 := keep hb2 k0_3
    replace k0_4 := keep hb2 k0_4
    replace k0_5 := keep hb2 k0_5
    replace k0_6 := keep hb2 k0_6
    replace k0_7 := keep hb2 k0_7
    replace HB := below_call HB (Nat.le_refl _) hb2
    clear hb2
    go_wp2
    go_ret
    exact ⟨rfl, HB⟩

set_option maxHeartbeats 4000000 in
set_option maxRecDepth 100000 in
theorem rbvalid_bad (nq np xq xp : Int) (dy : Bool) (lf st en : Int) (w : World) (h : ¬ BV nq np xq xp lf st en) :
    Calls Tryd.prog 29 #[bud nq np xq xp dy lf st en] w fun e w' => e = .returned (.int .i64 270) ∧ Below w.heap.size w w' := by
  rcases not_bv h with hv | ⟨hv, ⟨z, v⟩ | ⟨rfl, z⟩ | ⟨rfl, rfl⟩⟩ | ⟨hv, hn, ht⟩
  · exact rbvalid_bad1 nq np xq xp dy lf st en w hv
  · skip
    have HB : Below w.heap.size w (w.alloc (.cells #[.int .i64 nq, .int .i64 np, .int .i64 xq, .int .i64 xp, .bool dy, .int .i64 lf, .int .i64 st, .int .i64 en] 30)) := ((Below.refl _ w).alloc (by simp) _)
    have k0_0 : (w.alloc (.cells #[.int .i64 nq, .int .i64 np, .int .i64 xq, .int .i64 xp, .bool dy, .int .i64 lf, .int .i64 st, .int .i64 en] 30)).cell? ⟨w.heap.size, 0, none⟩ = some (.int .i64 nq) := by simp
    have k0_1 : (w.alloc (.cells #[.int .i64 nq, .int .i64 np, .int .i64 xq, .int .i64 xp, .bool dy, .int .i64 lf, .int .i64 st, .int .i64 en] 30)).cell? ⟨w.heap.size, 1, none⟩ = some (.int .i64 np) := by simp
    have k0_2 : (w.alloc (.cells #[.int .i64 nq, .int .i64 np, .int .i64 xq, .int .i64 xp, .bool dy, .int .i64 lf, .int .i64 st, .int .i64 en] 30)).cell? ⟨w.heap.size, 2, none⟩ = some (.int .i64 xq) := by simp
    have k0_3 : (w.alloc (.cells #[.int .i64 nq, .int .i64 np, .int .i64 xq, .int .i64 xp, .bool dy, .int .i64 lf, .int .i64 st, .int .i64 en] 30)).cell? ⟨w.heap.size, 3, none⟩ = some (.int .i64 xp) := by simp
    have k0_4 : (w.alloc (.cells #[.int .i64 nq, .int .i64 np, .int .i64 xq, .int .i64 xp, .bool dy, .int .i64 lf, .int .i64 st, .int .i64 en] 30)).cell? ⟨w.heap.size, 4, none⟩ = some (.bool dy) := by simp
    have k0_5 : (w.alloc (.cells #[.int .i64 nq, .int .i64 np, .int .i64 xq, .int .i64 xp, .bool dy, .int .i64 lf, .int .i64 st, .int .i64 en] 30)).cell? ⟨w.heap.size, 5, none⟩ = some (.int .i64 lf) := by simp
    have k0_6 : (w.alloc (.cells #[.int .i64 nq, .int .i64 np, .int .i64 xq, .int .i64 xp, .bool dy, .int .i64 lf, .int .i64 st, .int .i64 en] 30)).cell? ⟨w.heap.size, 6, none⟩ = some (.int .i64 st) := by simp
    have k0_7 : (w.alloc (.cells #[.int .i64 nq, .int .i64 np, .int .i64 xq, .int .i64 xp, .bool dy, .int .i64 lf, .int .i64 st, .int .i64 en] 30)).cell? ⟨w.heap.size, 7, none⟩ = some (.int .i64 en) := by simp
    clear h
    go_enter Tryd.func29, Tryd.ntmps29
    go_wp2_with fail
    refine (rvalid_bad xq xp _ v).mono ?_
    rintro e w1 ⟨rfl, hb1⟩
    replace k0_0 := keep hb1 k0_0
    replace k0_1 := keep hb1 k0_1
    replace k0_2 := keep hb1 k0_2
    replace k0_3 := keep hb1 k0_3
    replace k0_4 := keep hb1 k0_4
    replace k0_5 := keep hb1 k0_5
    replace k0_6 := keep hb1 k0_6
    replace k0_7 := keep hb1 k0_7
    replace HB := below_call HB (Nat.le_refl _) hb1
    clear hb1
    go_wp2_with fail
    refine (rvalid_ok nq np _ hv).mono ?_
    rintro e w2 ⟨rfl, hb2⟩
    replace k0_0 := keep hb2 k0_0
    replace k0_1 := keep hb2 k0_1
    replace k0_2 := keep hb2 k0_2
    replace k0_3 := keep hb2 k0_3
    replace k0_4 := keep hb2 k0_4
    replace k0_5 := keep hb2 k0_5
    replace k0_6 := keep hb2 k0_6
    replace k0_7 := keep hb2 k0_7
    replace HB := below_call HB (Nat.le_refl _) hb2
    clear hb2
    go_wp2
    go_ret
    exact ⟨rfl, HB⟩
  · skip
    have HB : Below w.heap.size w (w.alloc (.cells #[.int .i64 nq, .int .i64 np, .int .i64 0, .int .i64 xp, .bool dy, .int .i64 lf, .int .i64 st, .int .i64 en] 30)) := ((Below.refl _ w).alloc (by simp) _)
    have k0_0 : (w.alloc (.cells #[.int .i64 nq, .int .i64 np, .int .i64 0, .int .i64 xp, .bool dy, .int .i64 lf, .int .i64 st, .int .i64 en] 30)).cell? ⟨w.heap.size, 0, none⟩ = some (.int .i64 nq) := by simp
    have k0_1 : (w.alloc (.cells #[.int .i64 nq, .int .i64 np, .int .i64 0, .int .i64 xp, .bool dy, .int .i64 lf, .int .i64 st, .int .i64 en] 30)).cell? ⟨w.heap.size, 1, none⟩ = some (.int .i64 np) := by simp
    have k0_2 : (w.alloc (.cells #[.int .i64 nq, .int .i64 np, .int .i64 0, .int .i64 xp, .bool dy, .int .i64 lf, .int .i64 st, .int .i64 en] 30)).cell? ⟨w.heap.size, 2, none⟩ = some (.int .i64 0) := by simp
    have k0_3 : (w.alloc (.cells #[.int .i64 nq, .int .i64 np, .int .i64 0, .int .i64 xp, .bool dy, .int .i64 lf, .int .i64 st, .int .i64 en] 30)).cell? ⟨w.heap.size, 3, none⟩ = some (.int .i64 xp) := by simp
    have k0_4 : (w.alloc (.cells #[.int .i64 nq, .int .i64 np, .int .i64 0, .int .i64 xp, .bool dy, .int .i64 lf, .int .i64 st, .int .i64 en] 30)).cell? ⟨w.heap.size, 4, none⟩ = some (.bool dy) := by simp
    have k0_5 : (w.alloc (.cells #[.int .i64 nq, .int .i64 np, .int .i64 0, .int .i64 xp, .bool dy, .int .i64 lf, .int .i64 st, .int .i64 en] 30)).cell? ⟨w.heap.size, 5, none⟩ = some (.int .i64 lf) := by simp
    have k0_6 : (w.alloc (.cells #[.int .i64 nq, .int .i64 np, .int .i64 0, .int .i64 xp, .bool dy, .int .i64 lf, .int .i64 st, .int .i64 en] 30)).cell? ⟨w.heap.size, 6, none⟩ = some (.int .i64 st) := by simp
    have k0_7 : (w.alloc (.cells #[.int .i64 nq, .int .i64 np, .int .i64 0, .int .i64 xp, .bool dy, .int .i64 lf, .int .i64 st, .int .i64 en] 30)).cell? ⟨w.heap.size, 7, none⟩ = some (.int .i64 en) := by simp
    have v : ¬ Vld 0 xp := fun k => by have := k.lo; omega
    clear h
    go_enter Tryd.func29, Tryd.ntmps29
    go_wp2_with fail
    refine (rvalid_bad 0 xp _ v).mono ?_
    rintro e w1 ⟨rfl, hb1⟩
    replace k0_0 := keep hb1 k0_0
    replace k0_1 := keep hb1 k0_1
    replace k0_2 := keep hb1 k0_2
    replace k0_3 := keep hb1 k0_3
    replace k0_4 := keep hb1 k0_4
    replace k0_5 := keep hb1 k0_5
    replace k0_6 := keep hb1 k0_6
    replace k0_7 := keep hb1 k0_7
    replace HB := below_call HB (Nat.le_refl _) hb1
    clear hb1
    go_wp2_with fail
    refine (rvalid_ok nq np _ hv).mono ?_
    rintro e w2 ⟨rfl, hb2⟩
    replace k0_0 := keep hb2 k0_0
    replace k0_1 := keep hb2 k0_1
    replace k0_2 := keep hb2 k0_2
    replace k0_3 := keep hb2 k0_3
    replace k0_4 := keep hb2 k0_4
    replace k0_5 := keep hb2 k0_5
    replace k0_6 := keep hb2 k0_6
    replace k0_7 := keep hb2 k0_7
    replace HB := below_call HB (Nat.le_refl _) hb2
    clear hb2
    go_wp2
    go_ret
    exact ⟨rfl, HB⟩
  · skip
    have HB : Below w.heap.size w (w.alloc (.cells #[.int .i64 xq, .int .i64 xp, .int .i64 xq, .int .i64 xp, .bool dy, .int .i64 lf, .int .i64 st, .int .i64 en] 30)) := ((Below.refl _ w).alloc (by simp) _)
    have k0_0 : (w.alloc (.cells #[.int .i64 xq, .int .i64 xp, .int .i64 xq, .int .i64 xp, .bool dy, .int .i64 lf, .int .i64 st, .int .i64 en] 30)).cell? ⟨w.heap.size, 0, none⟩ = some (.int .i64 xq) := by simp
    have k0_1 : (w.alloc (.cells #[.int .i64 xq, .int .i64 xp, .int .i64 xq, .int .i64 xp, .bool dy, .int .i64 lf, .int .i64 st, .int .i64 en] 30)).cell? ⟨w.heap.size, 1, none⟩ = some (.int .i64 xp) := by simp
    have k0_2 : (w.alloc (.cells #[.int .i64 xq, .int .i64 xp, .int .i64 xq, .int .i64 xp, .bool dy, .int .i64 lf, .int .i64 st, .int .i64 en] 30)).cell? ⟨w.heap.size, 2, none⟩ = some (.int .i64 xq) := by simp
    have k0_3 : (w.alloc (.cells #[.int .i64 xq, .int .i64 xp, .int .i64 xq, .int .i64 xp, .bool dy, .int .i64 lf, .int .i64 st, .int .i64 en] 30)).cell? ⟨w.heap.size, 3, none⟩ = some (.int .i64 xp) := by simp
    have k0_4 : (w.alloc (.cells #[.int .i64 xq, .int .i64 xp, .int .i64 xq, .int .i64 xp, .bool dy, .int .i64 lf, .int .i64 st, .int .i64 en] 30)).cell? ⟨w.heap.size, 4, none⟩ = some (.bool dy) := by simp
    have k0_5 : (w.alloc (.cells #[.int .i64 xq, .int .i64 xp, .int .i64 xq, .int .i64 xp, .bool dy, .int .i64 lf, .int .i64 st, .int .i64 en] 30)).cell? ⟨w.heap.size, 5, none⟩ = some (.int .i64 lf) := by simp
    have k0_6 : (w.alloc (.cells #[.int .i64 xq, .int .i64 xp, .int .i64 xq, .int .i64 xp, .bool dy, .int .i64 lf, .int .i64 st, .int .i64 en] 30)).cell? ⟨w.heap.size, 6, none⟩ = some (.int .i64 st) := by simp
    have k0_7 : (w.alloc (.cells #[.int .i64 xq, .int .i64 xp, .int .i64 xq, .int .i64 xp, .bool dy, .int .i64 lf, .int .i64 st, .int .i64 en] 30)).cell? ⟨w.heap.size, 7, none⟩ = some (.int .i64 en) := by simp
    have z : (xq == 0) = false := by have := hv.lo; simp; omega
    clear h
    go_enter Tryd.func29, Tryd.ntmps29
    go_wp2_with fail
    refine (rvalid_ok xq xp _ hv).mono ?_
    rintro e w1 ⟨rfl, hb1⟩
    replace k0_0 := keep hb1 k0_0
    replace k0_1 := keep hb1 k0_1
    replace k0_2 := keep hb1 k0_2
    replace k0_3 := keep hb1 k0_3
    replace k0_4 := keep hb1 k0_4
    replace k0_5 := keep hb1 k0_5
    replace k0_6 := keep hb1 k0_6
    replace k0_7 := keep hb1 k0_7
    replace HB := below_call HB (Nat.le_refl _) hb1
    clear hb1
    go_wp2_with fail
    refine (rvalid_ok xq xp _ hv).mono ?_
    rintro e w2 ⟨rfl, hb2⟩
    replace k0_0 := keep hb2 k0_0
    replace k0_1 := keep hb2 k0_1
    replace k0_2 := keep hb2 k0_2
    replace k0_3 := keep hb2 k0_3
    replace k0_4 := keep hb2 k0_4
    replace k0_5 := keep hb2 k0_5
    replace k0_6 := keep hb2 k0_6
    replace k0_7 := keep hb2 k0_7
    replace HB := below_call HB (Nat.le_refl _) hb2
    clear hb2
    go_wp2
    go_ret
    exact ⟨rfl, HB⟩
  · have v1 := hv.lo; have v2 := hv.top; have v3 := hv.le
    clear h
    rcases hn with ⟨rfl, rfl⟩ | ⟨z, n1, v⟩ | ⟨z, rfl, n1, v⟩
    · rcases not_tail ht with c1 | ⟨c1, c2⟩ | ⟨c1, c2, c3⟩ | ⟨c1, c2, c3, c4⟩ | ⟨c1, c2, c3, c4, c5, c6, c7⟩
      all_goals
        clear ht
        have HB : Below w.heap.size w (w.alloc (.cells #[.int .i64 nq, .int .i64 np, .int .i64 0, .int .i64 0, .bool dy, .int .i64 lf, .int .i64 st, .int .i64 en] 30)) := ((Below.refl _ w).alloc (by simp) _)
        have k0_0 : (w.alloc (.cells #[.int .i64 nq, .int .i64 np, .int .i64 0, .int .i64 0, .bool dy, .int .i64 lf, .int .i64 st, .int .i64 en] 30)).cell? ⟨w.heap.size, 0, none⟩ = some (.int .i64 nq) := by simp
        have k0_1 : (w.alloc (.cells #[.int .i64 nq, .int .i64 np, .int .i64 0, .int .i64 0, .bool dy, .int .i64 lf, .int .i64 st, .int .i64 en] 30)).cell? ⟨w.heap.size, 1, none⟩ = some (.int .i64 np) := by simp
        have k0_2 : (w.alloc (.cells #[.int .i64 nq, .int .i64 np, .int .i64 0, .int .i64 0, .bool dy, .int .i64 lf, .int .i64 st, .int .i64 en] 30)).cell? ⟨w.heap.size, 2, none⟩ = some (.int .i64 0) := by simp
        have k0_3 : (w.alloc (.cells #[.int .i64 nq, .int .i64 np, .int .i64 0, .int .i64 0, .bool dy, .int .i64 lf, .int .i64 st, .int .i64 en] 30)).cell? ⟨w.heap.size, 3, none⟩ = some (.int .i64 0) := by simp
        have k0_4 : (w.alloc (.cells #[.int .i64 nq, .int .i64 np, .int .i64 0, .int .i64 0, .bool dy, .int .i64 lf, .int .i64 st, .int .i64 en] 30)).cell? ⟨w.heap.size, 4, none⟩ = some (.bool dy) := by simp
        have k0_5 : (w.alloc (.cells #[.int .i64 nq, .int .i64 np, .int .i64 0, .int .i64 0, .bool dy, .int .i64 lf, .int .i64 st, .int .i64 en] 30)).cell? ⟨w.heap.size, 5, none⟩ = some (.int .i64 lf) := by simp
        have k0_6 : (w.alloc (.cells #[.int .i64 nq, .int .i64 np, .int .i64 0, .int .i64 0, .bool dy, .int .i64 lf, .int .i64 st, .int .i64 en] 30)).cell? ⟨w.heap.size, 6, none⟩ = some (.int .i64 st) := by simp
        have k0_7 : (w.alloc (.cells #[.int .i64 nq, .int .i64 np, .int .i64 0, .int .i64 0, .bool dy, .int .i64 lf, .int .i64 st, .int .i64 en] 30)).cell? ⟨w.heap.size, 7, none⟩ = some (.int .i64 en) := by simp
        go_enter Tryd.func29, Tryd.ntmps29
        go_wp2_with fail
        refine (rvalid_ok nq np _ hv).mono ?_
        rintro e w1 ⟨rfl, hb1⟩
        replace k0_0 := keep hb1 k0_0
        replace k0_1 := keep hb1 k0_1
        replace k0_2 := keep hb1 k0_2
        replace k0_3 := keep hb1 k0_3
        replace k0_4 := keep hb1 k0_4
        replace k0_5 := keep hb1 k0_5
        replace k0_6 := keep hb1 k0_6
        replace k0_7 := keep hb1 k0_7
        replace HB := below_call HB (Nat.le_refl _) hb1
        clear hb1
        go_wp2
        go_ret
        exact ⟨rfl, HB⟩
    · rcases not_tail ht with c1 | ⟨c1, c2⟩ | ⟨c1, c2, c3⟩ | ⟨c1, c2, c3, c4⟩ | ⟨c1, c2, c3, c4, c5, c6, c7⟩
      all_goals
        clear ht
        have HB : Below w.heap.size w (w.alloc (.cells #[.int .i64 nq, .int .i64 np, .int .i64 xq, .int .i64 xp, .bool dy, .int .i64 lf, .int .i64 st, .int .i64 en] 30)) := ((Below.refl _ w).alloc (by simp) _)
        have k0_0 : (w.alloc (.cells #[.int .i64 nq, .int .i64 np, .int .i64 xq, .int .i64 xp, .bool dy, .int .i64 lf, .int .i64 st, .int .i64 en] 30)).cell? ⟨w.heap.size, 0, none⟩ = some (.int .i64 nq) := by simp
        have k0_1 : (w.alloc (.cells #[.int .i64 nq, .int .i64 np, .int .i64 xq, .int .i64 xp, .bool dy, .int .i64 lf, .int .i64 st, .int .i64 en] 30)).cell? ⟨w.heap.size, 1, none⟩ = some (.int .i64 np) := by simp
        have k0_2 : (w.alloc (.cells #[.int .i64 nq, .int .i64 np, .int .i64 xq, .int .i64 xp, .bool dy, .int .i64 lf, .int .i64 st, .int .i64 en] 30)).cell? ⟨w.heap.size, 2, none⟩ = some (.int .i64 xq) := by simp
        have k0_3 : (w.alloc (.cells #[.int .i64 nq, .int .i64 np, .int .i64 xq, .int .i64 xp, .bool dy, .int .i64 lf, .int .i64 st, .int .i64 en] 30)).cell? ⟨w.heap.size, 3, none⟩ = some (.int .i64 xp) := by simp
        have k0_4 : (w.alloc (.cells #[.int .i64 nq, .int .i64 np, .int .i64 xq, .int .i64 xp, .bool dy, .int .i64 lf, .int .i64 st, .int .i64 en] 30)).cell? ⟨w.heap.size, 4, none⟩ = some (.bool dy) := by simp
        have k0_5 : (w.alloc (.cells #[.int .i64 nq, .int .i64 np, .int .i64 xq, .int .i64 xp, .bool dy, .int .i64 lf, .int .i64 st, .int .i64 en] 30)).cell? ⟨w.heap.size, 5, none⟩ = some (.int .i64 lf) := by simp
        have k0_6 : (w.alloc (.cells #[.int .i64 nq, .int .i64 np, .int .i64 xq, .int .i64 xp, .bool dy, .int .i64 lf, .int .i64 st, .int .i64 en] 30)).cell? ⟨w.heap.size, 6, none⟩ = some (.int .i64 st) := by simp
        have k0_7 : (w.alloc (.cells #[.int .i64 nq, .int .i64 np, .int .i64 xq, .int .i64 xp, .bool dy, .int .i64 lf, .int .i64 st, .int .i64 en] 30)).cell? ⟨w.heap.size, 7, none⟩ = some (.int .i64 en) := by simp
        go_enter Tryd.func29, Tryd.ntmps29
        go_wp2_with fail
        refine (rvalid_ok xq xp _ v).mono ?_
        rintro e w1 ⟨rfl, hb1⟩
        replace k0_0 := keep hb1 k0_0
        replace k0_1 := keep hb1 k0_1
        replace k0_2 := keep hb1 k0_2
        replace k0_3 := keep hb1 k0_3
        replace k0_4 := keep hb1 k0_4
        replace k0_5 := keep hb1 k0_5
        replace k0_6 := keep hb1 k0_6
        replace k0_7 := keep hb1 k0_7
        replace HB := below_call HB (Nat.le_refl _) hb1
        clear hb1
        go_wp2_with fail
        refine (rvalid_ok nq np _ hv).mono ?_
        rintro e w2 ⟨rfl, hb2⟩
        replace k0_0 := keep hb2 k0_0
        replace k0_1 := keep hb2 k0_1
        replace k0_2 := keep hb2 k0_2
        replace k0_3 := keep hb2 k0_3
        replace k0_4 := keep hb2 k0_4
        replace k0_5 := keep hb2 k0_5
        replace k0_6 := keep hb2 k0_6
        replace k0_7 := keep hb2 k0_7
        replace HB := below_call HB (Nat.le_refl _) hb2
        clear hb2
        go_wp2
        go_ret
        exact ⟨rfl, HB⟩
    · rcases not_tail ht with c1 | ⟨c1, c2⟩ | ⟨c1, c2, c3⟩ | ⟨c1, c2, c3, c4⟩ | ⟨c1, c2, c3, c4, c5, c6, c7⟩
      all_goals
        clear ht
        have HB : Below w.heap.size w (w.alloc (.cells #[.int .i64 xq, .int .i64 np, .int .i64 xq, .int .i64 xp, .bool dy, .int .i64 lf, .int .i64 st, .int .i64 en] 30)) := ((Below.refl _ w).alloc (by simp) _)
        have k0_0 : (w.alloc (.cells #[.int .i64 xq, .int .i64 np, .int .i64 xq, .int .i64 xp, .bool dy, .int .i64 lf, .int .i64 st, .int .i64 en] 30)).cell? ⟨w.heap.size, 0, none⟩ = some (.int .i64 xq) := by simp
        have k0_1 : (w.alloc (.cells #[.int .i64 xq, .int .i64 np, .int .i64 xq, .int .i64 xp, .bool dy, .int .i64 lf, .int .i64 st, .int .i64 en] 30)).cell? ⟨w.heap.size, 1, none⟩ = some (.int .i64 np) := by simp
        have k0_2 : (w.alloc (.cells #[.int .i64 xq, .int .i64 np, .int .i64 xq, .int .i64 xp, .bool dy, .int .i64 lf, .int .i64 st, .int .i64 en] 30)).cell? ⟨w.heap.size, 2, none⟩ = some (.int .i64 xq) := by simp
        have k0_3 : (w.alloc (.cells #[.int .i64 xq, .int .i64 np, .int .i64 xq, .int .i64 xp, .bool dy, .int .i64 lf, .int .i64 st, .int .i64 en] 30)).cell? ⟨w.heap.size, 3, none⟩ = some (.int .i64 xp) := by simp
        have k0_4 : (w.alloc (.cells #[.int .i64 xq, .int .i64 np, .int .i64 xq, .int .i64 xp, .bool dy, .int .i64 lf, .int .i64 st, .int .i64 en] 30)).cell? ⟨w.heap.size, 4, none⟩ = some (.bool dy) := by simp
        have k0_5 : (w.alloc (.cells #[.int .i64 xq, .int .i64 np, .int .i64 xq, .int .i64 xp, .bool dy, .int .i64 lf, .int .i64 st, .int .i64 en] 30)).cell? ⟨w.heap.size, 5, none⟩ = some (.int .i64 lf) := by simp
        have k0_6 : (w.alloc (.cells #[.int .i64 xq, .int .i64 np, .int .i64 xq, .int .i64 xp, .bool dy, .int .i64 lf, .int .i64 st, .int .i64 en] 30)).cell? ⟨w.heap.size, 6, none⟩ = some (.int .i64 st) := by simp
        have k0_7 : (w.alloc (.cells #[.int .i64 xq, .int .i64 np, .int .i64 xq, .int .i64 xp, .bool dy, .int .i64 lf, .int .i64 st, .int .i64 en] 30)).cell? ⟨w.heap.size, 7, none⟩ = some (.int .i64 en) := by simp
        go_enter Tryd.func29, Tryd.ntmps29
        go_wp2_with fail
        refine (rvalid_ok xq xp _ v).mono ?_
        rintro e w1 ⟨rfl, hb1⟩
        replace k0_0 := keep hb1 k0_0
        replace k0_1 := keep hb1 k0_1
        replace k0_2 := keep hb1 k0_2
        replace k0_3 := keep hb1 k0_3
        replace k0_4 := keep hb1 k0_4
        replace k0_5 := keep hb1 k0_5
        replace k0_6 := keep hb1 k0_6
        replace k0_7 := keep hb1 k0_7
        replace HB := below_call HB (Nat.le_refl _) hb1
        clear hb1
        go_wp2_with fail
        refine (rvalid_ok xq np _ hv).mono ?_
        rintro e w2 ⟨rfl, hb2⟩
        replace k0_0 := keep hb2 k0_0
        replace k0_1 := keep hb2 k0_1
        replace k0_2 := keep hb2 k0_2
        replace k0_3 := keep hb2 k0_3
        replace k0_4 := keep hb2 k0_4
        replace k0_5 := keep hb2 k0_5
        replace k0_6 := keep hb2 k0_6
        replace k0_7 := keep hb2 k0_7
        replace HB := below_call HB (Nat.le_refl _) hb2
        clear hb2
        go_wp2
        go_ret
        exact ⟨rfl, HB⟩

end Go.Proofs.YtggcahcdhjnemaaDoor
