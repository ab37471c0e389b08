/- budget.Valid and the reference's, by contract. -/
import Derived.Test.YtggcahcdhjnemaaEq
import Derived.Test.YtggcahcdhjnemaaFixed1
set_option linter.unusedVariables false
set_option linter.unusedSimpArgs false
namespace Go.Proofs.Ytggcahcdhjnemaa
open Go.RowKit
attribute [local go_sem high] eqRes

/-- A budget's value. -/
abbrev bud (nq np xq xp : Int) (dy : Bool) (lf st en : Int) : Value := .agg #[.int .i64 nq, .int .i64 np, .int .i64 xq, .int .i64 xp, .bool dy, .int .i64 lf, .int .i64 st, .int .i64 en]

/-- What stands pending may stand: nothing, or a reservation that may be and is another one. -/
def NextOk (nq np xq xp : Int) : Prop := (xq = 0 ∧ xp = 0) ∨ ((xq == 0) = false ∧ (xq == nq) = false ∧ Vld xq xp) ∨ ((xq == 0) = false ∧ xq = nq ∧ (xp == np) = false ∧ Vld xq xp)
def TailOk (nq np lf st en : Int) : Prop := 0 ≤ lf ∧ lf ≤ nq ∧ 0 ≤ st ∧ st ≤ 1073741824 ∧ en = st + np
def BV (nq np xq xp lf st en : Int) : Prop := Vld nq np ∧ NextOk nq np xq xp ∧ TailOk nq np lf st en

theorem not_bv {nq np xq xp lf st en : Int} (h : ¬ BV nq np xq xp lf st en) : ¬ Vld nq np ∨ (Vld nq np ∧ (((xq == 0) = false ∧ ¬ Vld xq xp) ∨ (xq = 0 ∧ (xp == 0) = false) ∨ (xq = nq ∧ xp = np))) ∨ (Vld nq np ∧ NextOk nq np xq xp ∧ ¬ TailOk nq np lf st en) := by
  by_cases hv : Vld nq np
  · by_cases hn : NextOk nq np xq xp
    · exact Or.inr (Or.inr ⟨hv, hn, fun k => h ⟨hv, hn, k⟩⟩)
    · refine Or.inr (Or.inl ⟨hv, ?_⟩)
      by_cases z : xq = 0
      · subst z
        by_cases y : xp = 0
        · exact absurd (Or.inl ⟨rfl, y⟩) hn
        · exact Or.inr (Or.inl ⟨rfl, by simpa using y⟩)
      · have z' : (xq == 0) = false := by simpa using z
        by_cases v : Vld xq xp
        · refine Or.inr (Or.inr ?_)
          by_cases a : xq = nq
          · refine ⟨a, ?_⟩
            by_cases b : xp = np
            · exact b
            · exact absurd (Or.inr (Or.inr ⟨z', a, by simpa using b, v⟩)) hn
          · exact absurd (Or.inr (Or.inl ⟨z', by simpa using a, v⟩)) hn
        · exact Or.inl ⟨z', v⟩
  · exact Or.inl hv

theorem not_tail {nq np lf st en : Int} (h : ¬ TailOk nq np lf st en) : decide (lf < 0) = true ∨ (decide (lf < 0) = false ∧ decide (nq < lf) = true) ∨ (decide (lf < 0) = false ∧ decide (nq < lf) = false ∧ decide (st < 0) = true)
    ∨ (decide (lf < 0) = false ∧ decide (nq < lf) = false ∧ decide (st < 0) = false ∧ decide (1073741824 < st) = true)
    ∨ (decide (lf < 0) = false ∧ decide (nq < lf) = false ∧ decide (st < 0) = false ∧ decide (1073741824 < st) = false ∧ (en != st + np) = true ∧ -1 < st ∧ st < 1073741825) := by
  unfold TailOk at h
  simp only [decide_eq_true_eq, decide_eq_false_iff_not, bne_iff_ne, ne_eq]
  omega

set_option maxHeartbeats 2000000 in
set_option maxRecDepth 100000 in
theorem bvalid_ok (nq np xq xp : Int) (dy : Bool) (lf st en : Int) (w : World) (h : BV nq np xq xp lf st en) :
    Calls Try.prog 20 #[bud nq np xq xp dy lf st en] w fun e w' => e = .returned (.nilIface) ∧ Below w.heap.size w w' := by
  obtain ⟨hv, hn, t1, t2, t3, t4, rfl⟩ := h
  have c1 : decide (lf < 0) = false := by simp; omega
  have c2 : decide (nq < lf) = false := by simp; omega
  have c3 : decide (st < 0) = false := by simp; omega
  have c4 : decide (1073741824 < st) = false := by simp; omega
  have v1 := hv.lo; have v2 := hv.top; have v3 := hv.le
  rcases hn with ⟨rfl, rfl⟩ | ⟨z, n1, v⟩ | ⟨z, rfl, n1, v⟩
  · skip
    have HB : Below w.heap.size w (w.alloc (.cells #[.int .i64 nq, .int .i64 np, .int .i64 0, .int .i64 0, .bool dy, .int .i64 lf, .int .i64 st, .int .i64 (st + np)] 35)) := ((Below.refl _ w).alloc (by simp) _)
    have k0_0 : (w.alloc (.cells #[.int .i64 nq, .int .i64 np, .int .i64 0, .int .i64 0, .bool dy, .int .i64 lf, .int .i64 st, .int .i64 (st + np)] 35)).cell? ⟨w.heap.size, 0, none⟩ = some (.int .i64 nq) := by simp
    have k0_1 : (w.alloc (.cells #[.int .i64 nq, .int .i64 np, .int .i64 0, .int .i64 0, .bool dy, .int .i64 lf, .int .i64 st, .int .i64 (st + np)] 35)).cell? ⟨w.heap.size, 1, none⟩ = some (.int .i64 np) := by simp
    have k0_2 : (w.alloc (.cells #[.int .i64 nq, .int .i64 np, .int .i64 0, .int .i64 0, .bool dy, .int .i64 lf, .int .i64 st, .int .i64 (st + np)] 35)).cell? ⟨w.heap.size, 2, none⟩ = some (.int .i64 0) := by simp
    have k0_3 : (w.alloc (.cells #[.int .i64 nq, .int .i64 np, .int .i64 0, .int .i64 0, .bool dy, .int .i64 lf, .int .i64 st, .int .i64 (st + np)] 35)).cell? ⟨w.heap.size, 3, none⟩ = some (.int .i64 0) := by simp
    have k0_4 : (w.alloc (.cells #[.int .i64 nq, .int .i64 np, .int .i64 0, .int .i64 0, .bool dy, .int .i64 lf, .int .i64 st, .int .i64 (st + np)] 35)).cell? ⟨w.heap.size, 4, none⟩ = some (.bool dy) := by simp
    have k0_5 : (w.alloc (.cells #[.int .i64 nq, .int .i64 np, .int .i64 0, .int .i64 0, .bool dy, .int .i64 lf, .int .i64 st, .int .i64 (st + np)] 35)).cell? ⟨w.heap.size, 5, none⟩ = some (.int .i64 lf) := by simp
    have k0_6 : (w.alloc (.cells #[.int .i64 nq, .int .i64 np, .int .i64 0, .int .i64 0, .bool dy, .int .i64 lf, .int .i64 st, .int .i64 (st + np)] 35)).cell? ⟨w.heap.size, 6, none⟩ = some (.int .i64 st) := by simp
    have k0_7 : (w.alloc (.cells #[.int .i64 nq, .int .i64 np, .int .i64 0, .int .i64 0, .bool dy, .int .i64 lf, .int .i64 st, .int .i64 (st + np)] 35)).cell? ⟨w.heap.size, 7, none⟩ = some (.int .i64 (st + np)) := by simp
    go_enter Try.func20, Try.ntmps20
    go_wp2_with fail
    refine (fvalid_ok nq np _ hv).mono ?_
    rintro e w1 ⟨rfl, hb1⟩
    replace k0_0 := keep hb1 k0_0
    replace k0_1 := keep hb1 k0_1
    replace k0_2 := keep hb1 k0_2
    replace k0_3 := keep hb1 k0_3
    replace k0_4 := keep hb1 k0_4
    replace k0_5 := keep hb1 k0_5
    replace k0_6 := keep hb1 k0_6
    replace k0_7 := keep hb1 k0_7
    replace HB := below_call HB (Nat.le_refl _) hb1
    clear hb1
    go_wp2
    go_ret
    exact ⟨rfl, HB⟩
  · skip
    have HB : Below w.heap.size w (w.alloc (.cells #[.int .i64 nq, .int .i64 np, .int .i64 xq, .int .i64 xp, .bool dy, .int .i64 lf, .int .i64 st, .int .i64 (st + np)] 35)) := ((Below.refl _ w).alloc (by simp) _)
    have k0_0 : (w.alloc (.cells #[.int .i64 nq, .int .i64 np, .int .i64 xq, .int .i64 xp, .bool dy, .int .i64 lf, .int .i64 st, .int .i64 (st + np)] 35)).cell? ⟨w.heap.size, 0, none⟩ = some (.int .i64 nq) := by simp
    have k0_1 : (w.alloc (.cells #[.int .i64 nq, .int .i64 np, .int .i64 xq, .int .i64 xp, .bool dy, .int .i64 lf, .int .i64 st, .int .i64 (st + np)] 35)).cell? ⟨w.heap.size, 1, none⟩ = some (.int .i64 np) := by simp
    have k0_2 : (w.alloc (.cells #[.int .i64 nq, .int .i64 np, .int .i64 xq, .int .i64 xp, .bool dy, .int .i64 lf, .int .i64 st, .int .i64 (st + np)] 35)).cell? ⟨w.heap.size, 2, none⟩ = some (.int .i64 xq) := by simp
    have k0_3 : (w.alloc (.cells #[.int .i64 nq, .int .i64 np, .int .i64 xq, .int .i64 xp, .bool dy, .int .i64 lf, .int .i64 st, .int .i64 (st + np)] 35)).cell? ⟨w.heap.size, 3, none⟩ = some (.int .i64 xp) := by simp
    have k0_4 : (w.alloc (.cells #[.int .i64 nq, .int .i64 np, .int .i64 xq, .int .i64 xp, .bool dy, .int .i64 lf, .int .i64 st, .int .i64 (st + np)] 35)).cell? ⟨w.heap.size, 4, none⟩ = some (.bool dy) := by simp
    have k0_5 : (w.alloc (.cells #[.int .i64 nq, .int .i64 np, .int .i64 xq, .int .i64 xp, .bool dy, .int .i64 lf, .int .i64 st, .int .i64 (st + np)] 35)).cell? ⟨w.heap.size, 5, none⟩ = some (.int .i64 lf) := by simp
    have k0_6 : (w.alloc (.cells #[.int .i64 nq, .int .i64 np, .int .i64 xq, .int .i64 xp, .bool dy, .int .i64 lf, .int .i64 st, .int .i64 (st + np)] 35)).cell? ⟨w.heap.size, 6, none⟩ = some (.int .i64 st) := by simp
    have k0_7 : (w.alloc (.cells #[.int .i64 nq, .int .i64 np, .int .i64 xq, .int .i64 xp, .bool dy, .int .i64 lf, .int .i64 st, .int .i64 (st + np)] 35)).cell? ⟨w.heap.size, 7, none⟩ = some (.int .i64 (st + np)) := by simp
    go_enter Try.func20, Try.ntmps20
    go_wp2_with fail
    refine (fvalid_ok nq np _ hv).mono ?_
    rintro e w1 ⟨rfl, hb1⟩
    replace k0_0 := keep hb1 k0_0
    replace k0_1 := keep hb1 k0_1
    replace k0_2 := keep hb1 k0_2
    replace k0_3 := keep hb1 k0_3
    replace k0_4 := keep hb1 k0_4
    replace k0_5 := keep hb1 k0_5
    replace k0_6 := keep hb1 k0_6
    replace k0_7 := keep hb1 k0_7
    replace HB := below_call HB (Nat.le_refl _) hb1
    clear hb1
    go_wp2_with fail
    refine (fvalid_ok xq xp _ v).mono ?_
    rintro e w2 ⟨rfl, hb2⟩
    replace k0_0 := keep hb2 k0_0
    replace k0_1 := keep hb2 k0_1
    replace k0_2 := keep hb2 k0_2
    replace k0_3 := keep hb2 k0_3
    replace k0_4 := keep hb2 k0_4
    replace k0_5 := keep hb2 k0_5
    replace k0_6 := keep hb2 k0_6
    replace k0_7 := keep hb2 k0_7
    replace HB := below_call HB (Nat.le_refl _) hb2
    clear hb2
    go_wp2
    go_ret
    exact ⟨rfl, HB⟩
  · skip
    have HB : Below w.heap.size w (w.alloc (.cells #[.int .i64 xq, .int .i64 np, .int .i64 xq, .int .i64 xp, .bool dy, .int .i64 lf, .int .i64 st, .int .i64 (st + np)] 35)) := ((Below.refl _ w).alloc (by simp) _)
    have k0_0 : (w.alloc (.cells #[.int .i64 xq, .int .i64 np, .int .i64 xq, .int .i64 xp, .bool dy, .int .i64 lf, .int .i64 st, .int .i64 (st + np)] 35)).cell? ⟨w.heap.size, 0, none⟩ = some (.int .i64 xq) := by simp
    have k0_1 : (w.alloc (.cells #[.int .i64 xq, .int .i64 np, .int .i64 xq, .int .i64 xp, .bool dy, .int .i64 lf, .int .i64 st, .int .i64 (st + np)] 35)).cell? ⟨w.heap.size, 1, none⟩ = some (.int .i64 np) := by simp
    have k0_2 : (w.alloc (.cells #[.int .i64 xq, .int .i64 np, .int .i64 xq, .int .i64 xp, .bool dy, .int .i64 lf, .int .i64 st, .int .i64 (st + np)] 35)).cell? ⟨w.heap.size, 2, none⟩ = some (.int .i64 xq) := by simp
    have k0_3 : (w.alloc (.cells #[.int .i64 xq, .int .i64 np, .int .i64 xq, .int .i64 xp, .bool dy, .int .i64 lf, .int .i64 st, .int .i64 (st + np)] 35)).cell? ⟨w.heap.size, 3, none⟩ = some (.int .i64 xp) := by simp
    have k0_4 : (w.alloc (.cells #[.int .i64 xq, .int .i64 np, .int .i64 xq, .int .i64 xp, .bool dy, .int .i64 lf, .int .i64 st, .int .i64 (st + np)] 35)).cell? ⟨w.heap.size, 4, none⟩ = some (.bool dy) := by simp
    have k0_5 : (w.alloc (.cells #[.int .i64 xq, .int .i64 np, .int .i64 xq, .int .i64 xp, .bool dy, .int .i64 lf, .int .i64 st, .int .i64 (st + np)] 35)).cell? ⟨w.heap.size, 5, none⟩ = some (.int .i64 lf) := by simp
    have k0_6 : (w.alloc (.cells #[.int .i64 xq, .int .i64 np, .int .i64 xq, .int .i64 xp, .bool dy, .int .i64 lf, .int .i64 st, .int .i64 (st + np)] 35)).cell? ⟨w.heap.size, 6, none⟩ = some (.int .i64 st) := by simp
    have k0_7 : (w.alloc (.cells #[.int .i64 xq, .int .i64 np, .int .i64 xq, .int .i64 xp, .bool dy, .int .i64 lf, .int .i64 st, .int .i64 (st + np)] 35)).cell? ⟨w.heap.size, 7, none⟩ = some (.int .i64 (st + np)) := by simp
    go_enter Try.func20, Try.ntmps20
    go_wp2_with fail
    refine (fvalid_ok xq np _ hv).mono ?_
    rintro e w1 ⟨rfl, hb1⟩
    replace k0_0 := keep hb1 k0_0
    replace k0_1 := keep hb1 k0_1
    replace k0_2 := keep hb1 k0_2
    replace k0_3 := keep hb1 k0_3
    replace k0_4 := keep hb1 k0_4
    replace k0_5 := keep hb1 k0_5
    replace k0_6 := keep hb1 k0_6
    replace k0_7 := keep hb1 k0_7
    replace HB := below_call HB (Nat.le_refl _) hb1
    clear hb1
    go_wp2_with fail
    refine (fvalid_ok xq xp _ v).mono ?_
    rintro e w2 ⟨rfl, hb2⟩
    replace k0_0 := keep hb2 k0_0
    replace k0_1 := keep hb2 k0_1
    replace k0_2 := keep hb2 k0_2
    replace k0_3 := keep hb2 k0_3
    replace k0_4 := keep hb2 k0_4
    replace k0_5 := keep hb2 k0_5
    replace k0_6 := keep hb2 k0_6
    replace k0_7 := keep hb2 k0_7
    replace HB := below_call HB (Nat.le_refl _) hb2
    clear hb2
    go_wp2
    go_ret
    exact ⟨rfl, HB⟩

set_option maxHeartbeats 4000000 in
set_option maxRecDepth 100000 in
theorem bvalid_bad (nq np xq xp : Int) (dy : Bool) (lf st en : Int) (w : World) (h : ¬ BV nq np xq xp lf st en) :
    Calls Try.prog 20 #[bud nq np xq xp dy lf st en] w fun e w' => e = .returned (.iface 47 (.int .i64 270)) ∧ Below w.heap.size w w' := by
  rcases not_bv h with hv | ⟨hv, ⟨z, v⟩ | ⟨rfl, z⟩ | ⟨rfl, rfl⟩⟩ | ⟨hv, hn, ht⟩
  · skip
    have HB : Below w.heap.size w (w.alloc (.cells #[.int .i64 nq, .int .i64 np, .int .i64 xq, .int .i64 xp, .bool dy, .int .i64 lf, .int .i64 st, .int .i64 en] 35)) := ((Below.refl _ w).alloc (by simp) _)
    have k0_0 : (w.alloc (.cells #[.int .i64 nq, .int .i64 np, .int .i64 xq, .int .i64 xp, .bool dy, .int .i64 lf, .int .i64 st, .int .i64 en] 35)).cell? ⟨w.heap.size, 0, none⟩ = some (.int .i64 nq) := by simp
    have k0_1 : (w.alloc (.cells #[.int .i64 nq, .int .i64 np, .int .i64 xq, .int .i64 xp, .bool dy, .int .i64 lf, .int .i64 st, .int .i64 en] 35)).cell? ⟨w.heap.size, 1, none⟩ = some (.int .i64 np) := by simp
    have k0_2 : (w.alloc (.cells #[.int .i64 nq, .int .i64 np, .int .i64 xq, .int .i64 xp, .bool dy, .int .i64 lf, .int .i64 st, .int .i64 en] 35)).cell? ⟨w.heap.size, 2, none⟩ = some (.int .i64 xq) := by simp
    have k0_3 : (w.alloc (.cells #[.int .i64 nq, .int .i64 np, .int .i64 xq, .int .i64 xp, .bool dy, .int .i64 lf, .int .i64 st, .int .i64 en] 35)).cell? ⟨w.heap.size, 3, none⟩ = some (.int .i64 xp) := by simp
    have k0_4 : (w.alloc (.cells #[.int .i64 nq, .int .i64 np, .int .i64 xq, .int .i64 xp, .bool dy, .int .i64 lf, .int .i64 st, .int .i64 en] 35)).cell? ⟨w.heap.size, 4, none⟩ = some (.bool dy) := by simp
    have k0_5 : (w.alloc (.cells #[.int .i64 nq, .int .i64 np, .int .i64 xq, .int .i64 xp, .bool dy, .int .i64 lf, .int .i64 st, .int .i64 en] 35)).cell? ⟨w.heap.size, 5, none⟩ = some (.int .i64 lf) := by simp
    have k0_6 : (w.alloc (.cells #[.int .i64 nq, .int .i64 np, .int .i64 xq, .int .i64 xp, .bool dy, .int .i64 lf, .int .i64 st, .int .i64 en] 35)).cell? ⟨w.heap.size, 6, none⟩ = some (.int .i64 st) := by simp
    have k0_7 : (w.alloc (.cells #[.int .i64 nq, .int .i64 np, .int .i64 xq, .int .i64 xp, .bool dy, .int .i64 lf, .int .i64 st, .int .i64 en] 35)).cell? ⟨w.heap.size, 7, none⟩ = some (.int .i64 en) := by simp
    clear h
    go_enter Try.func20, Try.ntmps20
    go_wp2_with fail
    refine (fvalid_bad nq np _ hv).mono ?_
    rintro e w1 ⟨rfl, hb1⟩
    replace k0_0 := keep hb1 k0_0
    replace k0_1 := keep hb1 k0_1
    replace k0_2 := keep hb1 k0_2
    replace k0_3 := keep hb1 k0_3
    replace k0_4 := keep hb1 k0_4
    replace k0_5 := keep hb1 k0_5
    replace k0_6 := keep hb1 k0_6
    replace k0_7 := keep hb1 k0_7
    replace HB := below_call HB (Nat.le_refl _) hb1
    clear hb1
    go_wp2
    go_ret
    exact ⟨rfl, HB⟩
  · skip
    have HB : Below w.heap.size w (w.alloc (.cells #[.int .i64 nq, .int .i64 np, .int .i64 xq, .int .i64 xp, .bool dy, .int .i64 lf, .int .i64 st, .int .i64 en] 35)) := ((Below.refl _ w).alloc (by simp) _)
    have k0_0 : (w.alloc (.cells #[.int .i64 nq, .int .i64 np, .int .i64 xq, .int .i64 xp, .bool dy, .int .i64 lf, .int .i64 st, .int .i64 en] 35)).cell? ⟨w.heap.size, 0, none⟩ = some (.int .i64 nq) := by simp
    have k0_1 : (w.alloc (.cells #[.int .i64 nq, .int .i64 np, .int .i64 xq, .int .i64 xp, .bool dy, .int .i64 lf, .int .i64 st, .int .i64 en] 35)).cell? ⟨w.heap.size, 1, none⟩ = some (.int .i64 np) := by simp
    have k0_2 : (w.alloc (.cells #[.int .i64 nq, .int .i64 np, .int .i64 xq, .int .i64 xp, .bool dy, .int .i64 lf, .int .i64 st, .int .i64 en] 35)).cell? ⟨w.heap.size, 2, none⟩ = some (.int .i64 xq) := by simp
    have k0_3 : (w.alloc (.cells #[.int .i64 nq, .int .i64 np, .int .i64 xq, .int .i64 xp, .bool dy, .int .i64 lf, .int .i64 st, .int .i64 en] 35)).cell? ⟨w.heap.size, 3, none⟩ = some (.int .i64 xp) := by simp
    have k0_4 : (w.alloc (.cells #[.int .i64 nq, .int .i64 np, .int .i64 xq, .int .i64 xp, .bool dy, .int .i64 lf, .int .i64 st, .int .i64 en] 35)).cell? ⟨w.heap.size, 4, none⟩ = some (.bool dy) := by simp
    have k0_5 : (w.alloc (.cells #[.int .i64 nq, .int .i64 np, .int .i64 xq, .int .i64 xp, .bool dy, .int .i64 lf, .int .i64 st, .int .i64 en] 35)).cell? ⟨w.heap.size, 5, none⟩ = some (.int .i64 lf) := by simp
    have k0_6 : (w.alloc (.cells #[.int .i64 nq, .int .i64 np, .int .i64 xq, .int .i64 xp, .bool dy, .int .i64 lf, .int .i64 st, .int .i64 en] 35)).cell? ⟨w.heap.size, 6, none⟩ = some (.int .i64 st) := by simp
    have k0_7 : (w.alloc (.cells #[.int .i64 nq, .int .i64 np, .int .i64 xq, .int .i64 xp, .bool dy, .int .i64 lf, .int .i64 st, .int .i64 en] 35)).cell? ⟨w.heap.size, 7, none⟩ = some (.int .i64 en) := by simp
    clear h
    go_enter Try.func20, Try.ntmps20
    go_wp2_with fail
    refine (fvalid_ok nq np _ hv).mono ?_
    rintro e w1 ⟨rfl, hb1⟩
    replace k0_0 := keep hb1 k0_0
    replace k0_1 := keep hb1 k0_1
    replace k0_2 := keep hb1 k0_2
    replace k0_3 := keep hb1 k0_3
    replace k0_4 := keep hb1 k0_4
    replace k0_5 := keep hb1 k0_5
    replace k0_6 := keep hb1 k0_6
    replace k0_7 := keep hb1 k0_7
    replace HB := below_call HB (Nat.le_refl _) hb1
    clear hb1
    go_wp2_with fail
    refine (fvalid_bad xq xp _ v).mono ?_
    rintro e w2 ⟨rfl, hb2⟩
    replace k0_0 := keep hb2 k0_0
    replace k0_1 := keep hb2 k0_1
    replace k0_2 := keep hb2 k0_2
    replace k0_3 := keep hb2 k0_3
    replace k0_4 := keep hb2 k0_4
    replace k0_5 := keep hb2 k0_5
    replace k0_6 := keep hb2 k0_6
    replace k0_7 := keep hb2 k0_7
    replace HB := below_call HB (Nat.le_refl _) hb2
    clear hb2
    go_wp2
    go_ret
    exact ⟨rfl, HB⟩
  · skip
    have HB : Below w.heap.size w (w.alloc (.cells #[.int .i64 nq, .int .i64 np, .int .i64 0, .int .i64 xp, .bool dy, .int .i64 lf, .int .i64 st, .int .i64 en] 35)) := ((Below.refl _ w).alloc (by simp) _)
    have k0_0 : (w.alloc (.cells #[.int .i64 nq, .int .i64 np, .int .i64 0, .int .i64 xp, .bool dy, .int .i64 lf, .int .i64 st, .int .i64 en] 35)).cell? ⟨w.heap.size, 0, none⟩ = some (.int .i64 nq) := by simp
    have k0_1 : (w.alloc (.cells #[.int .i64 nq, .int .i64 np, .int .i64 0, .int .i64 xp, .bool dy, .int .i64 lf, .int .i64 st, .int .i64 en] 35)).cell? ⟨w.heap.size, 1, none⟩ = some (.int .i64 np) := by simp
    have k0_2 : (w.alloc (.cells #[.int .i64 nq, .int .i64 np, .int .i64 0, .int .i64 xp, .bool dy, .int .i64 lf, .int .i64 st, .int .i64 en] 35)).cell? ⟨w.heap.size, 2, none⟩ = some (.int .i64 0) := by simp
    have k0_3 : (w.alloc (.cells #[.int .i64 nq, .int .i64 np, .int .i64 0, .int .i64 xp, .bool dy, .int .i64 lf, .int .i64 st, .int .i64 en] 35)).cell? ⟨w.heap.size, 3, none⟩ = some (.int .i64 xp) := by simp
    have k0_4 : (w.alloc (.cells #[.int .i64 nq, .int .i64 np, .int .i64 0, .int .i64 xp, .bool dy, .int .i64 lf, .int .i64 st, .int .i64 en] 35)).cell? ⟨w.heap.size, 4, none⟩ = some (.bool dy) := by simp
    have k0_5 : (w.alloc (.cells #[.int .i64 nq, .int .i64 np, .int .i64 0, .int .i64 xp, .bool dy, .int .i64 lf, .int .i64 st, .int .i64 en] 35)).cell? ⟨w.heap.size, 5, none⟩ = some (.int .i64 lf) := by simp
    have k0_6 : (w.alloc (.cells #[.int .i64 nq, .int .i64 np, .int .i64 0, .int .i64 xp, .bool dy, .int .i64 lf, .int .i64 st, .int .i64 en] 35)).cell? ⟨w.heap.size, 6, none⟩ = some (.int .i64 st) := by simp
    have k0_7 : (w.alloc (.cells #[.int .i64 nq, .int .i64 np, .int .i64 0, .int .i64 xp, .bool dy, .int .i64 lf, .int .i64 st, .int .i64 en] 35)).cell? ⟨w.heap.size, 7, none⟩ = some (.int .i64 en) := by simp
    have v : ¬ Vld 0 xp := fun k => by have := k.lo; omega
    clear h
    go_enter Try.func20, Try.ntmps20
    go_wp2_with fail
    refine (fvalid_ok nq np _ hv).mono ?_
    rintro e w1 ⟨rfl, hb1⟩
    replace k0_0 := keep hb1 k0_0
    replace k0_1 := keep hb1 k0_1
    replace k0_2 := keep hb1 k0_2
    replace k0_3 := keep hb1 k0_3
    replace k0_4 := keep hb1 k0_4
    replace k0_5 := keep hb1 k0_5
    replace k0_6 := keep hb1 k0_6
    replace k0_7 := keep hb1 k0_7
    replace HB := below_call HB (Nat.le_refl _) hb1
    clear hb1
    go_wp2_with fail
    refine (fvalid_bad 0 xp _ v).mono ?_
    rintro e w2 ⟨rfl, hb2⟩
    replace k0_0 := keep hb2 k0_0
    replace k0_1 := keep hb2 k0_1
    replace k0_2 := keep hb2 k0_2
    replace k0_3 := keep hb2 k0_3
    replace k0_4 := keep hb2 k0_4
    replace k0_5 := keep hb2 k0_5
    replace k0_6 := keep hb2 k0_6
    replace k0_7 := keep hb2 k0_7
    replace HB := below_call HB (Nat.le_refl _) hb2
    clear hb2
    go_wp2
    go_ret
    exact ⟨rfl, HB⟩
  · skip
    have HB : Below w.heap.size w (w.alloc (.cells #[.int .i64 xq, .int .i64 xp, .int .i64 xq, .int .i64 xp, .bool dy, .int .i64 lf, .int .i64 st, .int .i64 en] 35)) := ((Below.refl _ w).alloc (by simp) _)
    have k0_0 : (w.alloc (.cells #[.int .i64 xq, .int .i64 xp, .int .i64 xq, .int .i64 xp, .bool dy, .int .i64 lf, .int .i64 st, .int .i64 en] 35)).cell? ⟨w.heap.size, 0, none⟩ = some (.int .i64 xq) := by simp
    have k0_1 : (w.alloc (.cells #[.int .i64 xq, .int .i64 xp, .int .i64 xq, .int .i64 xp, .bool dy, .int .i64 lf, .int .i64 st, .int .i64 en] 35)).cell? ⟨w.heap.size, 1, none⟩ = some (.int .i64 xp) := by simp
    have k0_2 : (w.alloc (.cells #[.int .i64 xq, .int .i64 xp, .int .i64 xq, .int .i64 xp, .bool dy, .int .i64 lf, .int .i64 st, .int .i64 en] 35)).cell? ⟨w.heap.size, 2, none⟩ = some (.int .i64 xq) := by simp
    have k0_3 : (w.alloc (.cells #[.int .i64 xq, .int .i64 xp, .int .i64 xq, .int .i64 xp, .bool dy, .int .i64 lf, .int .i64 st, .int .i64 en] 35)).cell? ⟨w.heap.size, 3, none⟩ = some (.int .i64 xp) := by simp
    have k0_4 : (w.alloc (.cells #[.int .i64 xq, .int .i64 xp, .int .i64 xq, .int .i64 xp, .bool dy, .int .i64 lf, .int .i64 st, .int .i64 en] 35)).cell? ⟨w.heap.size, 4, none⟩ = some (.bool dy) := by simp
    have k0_5 : (w.alloc (.cells #[.int .i64 xq, .int .i64 xp, .int .i64 xq, .int .i64 xp, .bool dy, .int .i64 lf, .int .i64 st, .int .i64 en] 35)).cell? ⟨w.heap.size, 5, none⟩ = some (.int .i64 lf) := by simp
    have k0_6 : (w.alloc (.cells #[.int .i64 xq, .int .i64 xp, .int .i64 xq, .int .i64 xp, .bool dy, .int .i64 lf, .int .i64 st, .int .i64 en] 35)).cell? ⟨w.heap.size, 6, none⟩ = some (.int .i64 st) := by simp
    have k0_7 : (w.alloc (.cells #[.int .i64 xq, .int .i64 xp, .int .i64 xq, .int .i64 xp, .bool dy, .int .i64 lf, .int .i64 st, .int .i64 en] 35)).cell? ⟨w.heap.size, 7, none⟩ = some (.int .i64 en) := by simp
    have z : (xq == 0) = false := by have := hv.lo; simp; omega
    clear h
    go_enter Try.func20, Try.ntmps20
    go_wp2_with fail
    refine (fvalid_ok xq xp _ hv).mono ?_
    rintro e w1 ⟨rfl, hb1⟩
    replace k0_0 := keep hb1 k0_0
    replace k0_1 := keep hb1 k0_1
    replace k0_2 := keep hb1 k0_2
    replace k0_3 := keep hb1 k0_3
    replace k0_4 := keep hb1 k0_4
    replace k0_5 := keep hb1 k0_5
    replace k0_6 := keep hb1 k0_6
    replace k0_7 := keep hb1 k0_7
    replace HB := below_call HB (Nat.le_refl _) hb1
    clear hb1
    go_wp2_with fail
    refine (fvalid_ok xq xp _ hv).mono ?_
    rintro e w2 ⟨rfl, hb2⟩
    replace k0_0 := keep hb2 k0_0
    replace k0_1 := keep hb2 k0_1
    replace k0_2 := keep hb2 k0_2
    replace k0_3 := keep hb2 k0_3
    replace k0_4 := keep hb2 k0_4
    replace k0_5 := keep hb2 k0_5
    replace k0_6 := keep hb2 k0_6
    replace k0_7 := keep hb2 k0_7
    replace HB := below_call HB (Nat.le_refl _) hb2
    clear hb2
    go_wp2
    go_ret
    exact ⟨rfl, HB⟩
  · have v1 := hv.lo; have v2 := hv.top; have v3 := hv.le
    clear h
    rcases hn with ⟨rfl, rfl⟩ | ⟨z, n1, v⟩ | ⟨z, rfl, n1, v⟩
    · rcases not_tail ht with c1 | ⟨c1, c2⟩ | ⟨c1, c2, c3⟩ | ⟨c1, c2, c3, c4⟩ | ⟨c1, c2, c3, c4, c5, c6, c7⟩
      all_goals
        clear ht
        have HB : Below w.heap.size w (w.alloc (.cells #[.int .i64 nq, .int .i64 np, .int .i64 0, .int .i64 0, .bool dy, .int .i64 lf, .int .i64 st, .int .i64 en] 35)) := ((Below.refl _ w).alloc (by simp) _)
        have k0_0 : (w.alloc (.cells #[.int .i64 nq, .int .i64 np, .int .i64 0, .int .i64 0, .bool dy, .int .i64 lf, .int .i64 st, .int .i64 en] 35)).cell? ⟨w.heap.size, 0, none⟩ = some (.int .i64 nq) := by simp
        have k0_1 : (w.alloc (.cells #[.int .i64 nq, .int .i64 np, .int .i64 0, .int .i64 0, .bool dy, .int .i64 lf, .int .i64 st, .int .i64 en] 35)).cell? ⟨w.heap.size, 1, none⟩ = some (.int .i64 np) := by simp
        have k0_2 : (w.alloc (.cells #[.int .i64 nq, .int .i64 np, .int .i64 0, .int .i64 0, .bool dy, .int .i64 lf, .int .i64 st, .int .i64 en] 35)).cell? ⟨w.heap.size, 2, none⟩ = some (.int .i64 0) := by simp
        have k0_3 : (w.alloc (.cells #[.int .i64 nq, .int .i64 np, .int .i64 0, .int .i64 0, .bool dy, .int .i64 lf, .int .i64 st, .int .i64 en] 35)).cell? ⟨w.heap.size, 3, none⟩ = some (.int .i64 0) := by simp
        have k0_4 : (w.alloc (.cells #[.int .i64 nq, .int .i64 np, .int .i64 0, .int .i64 0, .bool dy, .int .i64 lf, .int .i64 st, .int .i64 en] 35)).cell? ⟨w.heap.size, 4, none⟩ = some (.bool dy) := by simp
        have k0_5 : (w.alloc (.cells #[.int .i64 nq, .int .i64 np, .int .i64 0, .int .i64 0, .bool dy, .int .i64 lf, .int .i64 st, .int .i64 en] 35)).cell? ⟨w.heap.size, 5, none⟩ = some (.int .i64 lf) := by simp
        have k0_6 : (w.alloc (.cells #[.int .i64 nq, .int .i64 np, .int .i64 0, .int .i64 0, .bool dy, .int .i64 lf, .int .i64 st, .int .i64 en] 35)).cell? ⟨w.heap.size, 6, none⟩ = some (.int .i64 st) := by simp
        have k0_7 : (w.alloc (.cells #[.int .i64 nq, .int .i64 np, .int .i64 0, .int .i64 0, .bool dy, .int .i64 lf, .int .i64 st, .int .i64 en] 35)).cell? ⟨w.heap.size, 7, none⟩ = some (.int .i64 en) := by simp
        go_enter Try.func20, Try.ntmps20
        go_wp2_with fail
        refine (fvalid_ok nq np _ hv).mono ?_
        rintro e w1 ⟨rfl, hb1⟩
        replace k0_0 := keep hb1 k0_0
        replace k0_1 := keep hb1 k0_1
        replace k0_2 := keep hb1 k0_2
        replace k0_3 := keep hb1 k0_3
        replace k0_4 := keep hb1 k0_4
        replace k0_5 := keep hb1 k0_5
        replace k0_6 := keep hb1 k0_6
        replace k0_7 := keep hb1 k0_7
        replace HB := below_call HB (Nat.le_refl _) hb1
        clear hb1
        go_wp2
        go_ret
        exact ⟨rfl, HB⟩
    · rcases not_tail ht with c1 | ⟨c1, c2⟩ | ⟨c1, c2, c3⟩ | ⟨c1, c2, c3, c4⟩ | ⟨c1, c2, c3, c4, c5, c6, c7⟩
      all_goals
        clear ht
        have HB : Below w.heap.size w (w.alloc (.cells #[.int .i64 nq, .int .i64 np, .int .i64 xq, .int .i64 xp, .bool dy, .int .i64 lf, .int .i64 st, .int .i64 en] 35)) := ((Below.refl _ w).alloc (by simp) _)
        have k0_0 : (w.alloc (.cells #[.int .i64 nq, .int .i64 np, .int .i64 xq, .int .i64 xp, .bool dy, .int .i64 lf, .int .i64 st, .int .i64 en] 35)).cell? ⟨w.heap.size, 0, none⟩ = some (.int .i64 nq) := by simp
        have k0_1 : (w.alloc (.cells #[.int .i64 nq, .int .i64 np, .int .i64 xq, .int .i64 xp, .bool dy, .int .i64 lf, .int .i64 st, .int .i64 en] 35)).cell? ⟨w.heap.size, 1, none⟩ = some (.int .i64 np) := by simp
        have k0_2 : (w.alloc (.cells #[.int .i64 nq, .int .i64 np, .int .i64 xq, .int .i64 xp, .bool dy, .int .i64 lf, .int .i64 st, .int .i64 en] 35)).cell? ⟨w.heap.size, 2, none⟩ = some (.int .i64 xq) := by simp
        have k0_3 : (w.alloc (.cells #[.int .i64 nq, .int .i64 np, .int .i64 xq, .int .i64 xp, .bool dy, .int .i64 lf, .int .i64 st, .int .i64 en] 35)).cell? ⟨w.heap.size, 3, none⟩ = some (.int .i64 xp) := by simp
        have k0_4 : (w.alloc (.cells #[.int .i64 nq, .int .i64 np, .int .i64 xq, .int .i64 xp, .bool dy, .int .i64 lf, .int .i64 st, .int .i64 en] 35)).cell? ⟨w.heap.size, 4, none⟩ = some (.bool dy) := by simp
        have k0_5 : (w.alloc (.cells #[.int .i64 nq, .int .i64 np, .int .i64 xq, .int .i64 xp, .bool dy, .int .i64 lf, .int .i64 st, .int .i64 en] 35)).cell? ⟨w.heap.size, 5, none⟩ = some (.int .i64 lf) := by simp
        have k0_6 : (w.alloc (.cells #[.int .i64 nq, .int .i64 np, .int .i64 xq, .int .i64 xp, .bool dy, .int .i64 lf, .int .i64 st, .int .i64 en] 35)).cell? ⟨w.heap.size, 6, none⟩ = some (.int .i64 st) := by simp
        have k0_7 : (w.alloc (.cells #[.int .i64 nq, .int .i64 np, .int .i64 xq, .int .i64 xp, .bool dy, .int .i64 lf, .int .i64 st, .int .i64 en] 35)).cell? ⟨w.heap.size, 7, none⟩ = some (.int .i64 en) := by simp
        go_enter Try.func20, Try.ntmps20
        go_wp2_with fail
        refine (fvalid_ok nq np _ hv).mono ?_
        rintro e w1 ⟨rfl, hb1⟩
        replace k0_0 := keep hb1 k0_0
        replace k0_1 := keep hb1 k0_1
        replace k0_2 := keep hb1 k0_2
        replace k0_3 := keep hb1 k0_3
        replace k0_4 := keep hb1 k0_4
        replace k0_5 := keep hb1 k0_5
        replace k0_6 := keep hb1 k0_6
        replace k0_7 := keep hb1 k0_7
        replace HB := below_call HB (Nat.le_refl _) hb1
        clear hb1
        go_wp2_with fail
        refine (fvalid_ok xq xp _ v).mono ?_
        rintro e w2 ⟨rfl, hb2⟩
        replace k0_0 := keep hb2 k0_0
        replace k0_1 := keep hb2 k0_1
        replace k0_2 := keep hb2 k0_2
        replace k0_3 := keep hb2 k0_3
        replace k0_4 := keep hb2 k0_4
        replace k0_5 := keep hb2 k0_5
        replace k0_6 := keep hb2 k0_6
        replace k0_7 := keep hb2 k0_7
        replace HB := below_call HB (Nat.le_refl _) hb2
        clear hb2
        go_wp2
        go_ret
        exact ⟨rfl, HB⟩
    · rcases not_tail ht with c1 | ⟨c1, c2⟩ | ⟨c1, c2, c3⟩ | ⟨c1, c2, c3, c4⟩ | ⟨c1, c2, c3, c4, c5, c6, c7⟩
      all_goals
        clear ht
        have HB : Below w.heap.size w (w.alloc (.cells #[.int .i64 xq, .int .i64 np, .int .i64 xq, .int .i64 xp, .bool dy, .int .i64 lf, .int .i64 st, .int .i64 en] 35)) := ((Below.refl _ w).alloc (by simp) _)
        have k0_0 : (w.alloc (.cells #[.int .i64 xq, .int .i64 np, .int .i64 xq, .int .i64 xp, .bool dy, .int .i64 lf, .int .i64 st, .int .i64 en] 35)).cell? ⟨w.heap.size, 0, none⟩ = some (.int .i64 xq) := by simp
        have k0_1 : (w.alloc (.cells #[.int .i64 xq, .int .i64 np, .int .i64 xq, .int .i64 xp, .bool dy, .int .i64 lf, .int .i64 st, .int .i64 en] 35)).cell? ⟨w.heap.size, 1, none⟩ = some (.int .i64 np) := by simp
        have k0_2 : (w.alloc (.cells #[.int .i64 xq, .int .i64 np, .int .i64 xq, .int .i64 xp, .bool dy, .int .i64 lf, .int .i64 st, .int .i64 en] 35)).cell? ⟨w.heap.size, 2, none⟩ = some (.int .i64 xq) := by simp
        have k0_3 : (w.alloc (.cells #[.int .i64 xq, .int .i64 np, .int .i64 xq, .int .i64 xp, .bool dy, .int .i64 lf, .int .i64 st, .int .i64 en] 35)).cell? ⟨w.heap.size, 3, none⟩ = some (.int .i64 xp) := by simp
        have k0_4 : (w.alloc (.cells #[.int .i64 xq, .int .i64 np, .int .i64 xq, .int .i64 xp, .bool dy, .int .i64 lf, .int .i64 st, .int .i64 en] 35)).cell? ⟨w.heap.size, 4, none⟩ = some (.bool dy) := by simp
        have k0_5 : (w.alloc (.cells #[.int .i64 xq, .int .i64 np, .int .i64 xq, .int .i64 xp, .bool dy, .int .i64 lf, .int .i64 st, .int .i64 en] 35)).cell? ⟨w.heap.size, 5, none⟩ = some (.int .i64 lf) := by simp
        have k0_6 : (w.alloc (.cells #[.int .i64 xq, .int .i64 np, .int .i64 xq, .int .i64 xp, .bool dy, .int .i64 lf, .int .i64 st, .int .i64 en] 35)).cell? ⟨w.heap.size, 6, none⟩ = some (.int .i64 st) := by simp
        have k0_7 : (w.alloc (.cells #[.int .i64 xq, .int .i64 np, .int .i64 xq, .int .i64 xp, .bool dy, .int .i64 lf, .int .i64 st, .int .i64 en] 35)).cell? ⟨w.heap.size, 7, none⟩ = some (.int .i64 en) := by simp
        go_enter Try.func20, Try.ntmps20
        go_wp2_with fail
        refine (fvalid_ok xq np _ hv).mono ?_
        rintro e w1 ⟨rfl, hb1⟩
        replace k0_0 := keep hb1 k0_0
        replace k0_1 := keep hb1 k0_1
        replace k0_2 := keep hb1 k0_2
        replace k0_3 := keep hb1 k0_3
        replace k0_4 := keep hb1 k0_4
        replace k0_5 := keep hb1 k0_5
        replace k0_6 := keep hb1 k0_6
        replace k0_7 := keep hb1 k0_7
        replace HB := below_call HB (Nat.le_refl _) hb1
        clear hb1
        go_wp2_with fail
        refine (fvalid_ok xq xp _ v).mono ?_
        rintro e w2 ⟨rfl, hb2⟩
        replace k0_0 := keep hb2 k0_0
        replace k0_1 := keep hb2 k0_1
        replace k0_2 := keep hb2 k0_2
        replace k0_3 := keep hb2 k0_3
        replace k0_4 := keep hb2 k0_4
        replace k0_5 := keep hb2 k0_5
        replace k0_6 := keep hb2 k0_6
        replace k0_7 := keep hb2 k0_7
        replace HB := below_call HB (Nat.le_refl _) hb2
        clear hb2
        go_wp2
        go_ret
        exact ⟨rfl, HB⟩

end Go.Proofs.Ytggcahcdhjnemaa
