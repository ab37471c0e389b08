/- budget.New and the reference's, by contract. -/
import Derived.Test.YtggcahcdhjnemaaBud2
set_option linter.unusedVariables false
set_option linter.unusedSimpArgs false
namespace Go.Proofs.Ytggcahcdhjnemaa
open Go.RowKit
attribute [local go_sem high] eqRes

theorem cso {w : World} {a b : Addr} {u v : Value} (h : a.block ≠ b.block ∨ a.off ≠ b.off) (k : w.cell? b = some v) : (w.setCell a u).cell? b = some v := by
  rw [World.cell?_setCell_other _ _ _ _ (fun e => by subst e; rcases h with h | h <;> exact h rfl)]; exact k
theorem css {w : World} {a : Addr} {u : Value} (k : (w.cell? a).isSome = true) : (w.setCell a u).cell? a = some u := World.cell?_setCell_same' _ _ _ k
theorem iss {w : World} {a b : Addr} {u : Value} (k : (w.cell? b).isSome = true) : ((w.setCell a u).cell? b).isSome = true := by
  by_cases h : a = b
  · subst h; rw [css k]; rfl
  · rw [World.cell?_setCell_other _ _ _ _ h]; exact k
theorem idn {w : World} {b : Addr} (k : (w.cell? b).isSome = true) (n : Nat) : ((w.drewN n).cell? b).isSome = true := k
theorem cdn {w : World} {b : Addr} {v : Value} (k : w.cell? b = some v) (n : Nat) : (w.drewN n).cell? b = some v := k

theorem frozen_beyond (w : World) (b o : Nat) (h : w.heap.size ≤ b) : w.frozen? ⟨b, o, none⟩ = false := by
  simp [World.frozen?, Array.getElem?_eq_none h]

abbrev budZ : Value := bud 0 0 0 0 false 0 0 0
abbrev budZZ : Value := .agg #[.int .i64 0, .int .i64 0, .int .i64 0, .int .i64 0, .bool false, .int .i64 0, .int .i64 0, .int .i64 0]

set_option maxHeartbeats 1000000 in
set_option maxRecDepth 100000 in
theorem bnew_ok (q p at_ : Int) (w : World) (h0 : 0 ≤ at_) (h1 : at_ ≤ 1073741824) (h : Vld q p) :
    Calls Try.prog 10 #[.agg #[.int .i64 q, .int .i64 p], .int .i64 at_] w fun e w' => e = .returned (.tuple #[bud q p 0 0 false q at_ (at_ + p), .nilIface]) ∧ Below w.heap.size w w' := by
  have c1 : decide (at_ < 0) = false := by simp; omega
  have c2 : decide (1073741824 < at_) = false := by simp; omega
  have v1 := h.lo; have v2 := h.top; have v3 := h.le
  have HB : Below w.heap.size w (w.alloc (.cells #[.int .i64 q, .int .i64 p] 23)) := ((Below.refl _ w).alloc (by simp) _)
  have k0_0 : (w.alloc (.cells #[.int .i64 q, .int .i64 p] 23)).cell? ⟨w.heap.size, 0, none⟩ = some (.int .i64 q) := by simp
  have k0_1 : (w.alloc (.cells #[.int .i64 q, .int .i64 p] 23)).cell? ⟨w.heap.size, 1, none⟩ = some (.int .i64 p) := by simp
  replace HB : Below w.heap.size w ((w.alloc (.cells #[.int .i64 q, .int .i64 p] 23)).alloc (.cells #[.int .i64 0, .int .i64 0, .int .i64 0, .int .i64 0, .bool false, .int .i64 0, .int .i64 0, .int .i64 0] 35)) := HB.alloc (by simp) _
  replace k0_0 : ((w.alloc (.cells #[.int .i64 q, .int .i64 p] 23)).alloc (.cells #[.int .i64 0, .int .i64 0, .int .i64 0, .int .i64 0, .bool false, .int .i64 0, .int .i64 0, .int .i64 0] 35)).cell? ⟨w.heap.size, 0, none⟩ = some (.int .i64 q) := by simp
  replace k0_1 : ((w.alloc (.cells #[.int .i64 q, .int .i64 p] 23)).alloc (.cells #[.int .i64 0, .int .i64 0, .int .i64 0, .int .i64 0, .bool false, .int .i64 0, .int .i64 0, .int .i64 0] 35)).cell? ⟨w.heap.size, 1, none⟩ = some (.int .i64 p) := by simp
  have r0 : ((w.alloc (.cells #[.int .i64 q, .int .i64 p] 23)).alloc (.cells #[.int .i64 0, .int .i64 0, .int .i64 0, .int .i64 0, .bool false, .int .i64 0, .int .i64 0, .int .i64 0] 35)).cell? ⟨w.heap.size + 1, 0, none⟩ = some (.int .i64 0) := by simp
  have f0 : ((w.alloc (.cells #[.int .i64 q, .int .i64 p] 23)).alloc (.cells #[.int .i64 0, .int .i64 0, .int .i64 0, .int .i64 0, .bool false, .int .i64 0, .int .i64 0, .int .i64 0] 35)).frozen? ⟨w.heap.size + 1, 0, none⟩ = false := by simp
  have r1 : ((w.alloc (.cells #[.int .i64 q, .int .i64 p] 23)).alloc (.cells #[.int .i64 0, .int .i64 0, .int .i64 0, .int .i64 0, .bool false, .int .i64 0, .int .i64 0, .int .i64 0] 35)).cell? ⟨w.heap.size + 1, 1, none⟩ = some (.int .i64 0) := by simp
  have f1 : ((w.alloc (.cells #[.int .i64 q, .int .i64 p] 23)).alloc (.cells #[.int .i64 0, .int .i64 0, .int .i64 0, .int .i64 0, .bool false, .int .i64 0, .int .i64 0, .int .i64 0] 35)).frozen? ⟨w.heap.size + 1, 1, none⟩ = false := by simp
  have r2 : ((w.alloc (.cells #[.int .i64 q, .int .i64 p] 23)).alloc (.cells #[.int .i64 0, .int .i64 0, .int .i64 0, .int .i64 0, .bool false, .int .i64 0, .int .i64 0, .int .i64 0] 35)).cell? ⟨w.heap.size + 1, 2, none⟩ = some (.int .i64 0) := by simp
  have f2 : ((w.alloc (.cells #[.int .i64 q, .int .i64 p] 23)).alloc (.cells #[.int .i64 0, .int .i64 0, .int .i64 0, .int .i64 0, .bool false, .int .i64 0, .int .i64 0, .int .i64 0] 35)).frozen? ⟨w.heap.size + 1, 2, none⟩ = false := by simp
  have r3 : ((w.alloc (.cells #[.int .i64 q, .int .i64 p] 23)).alloc (.cells #[.int .i64 0, .int .i64 0, .int .i64 0, .int .i64 0, .bool false, .int .i64 0, .int .i64 0, .int .i64 0] 35)).cell? ⟨w.heap.size + 1, 3, none⟩ = some (.int .i64 0) := by simp
  have f3 : ((w.alloc (.cells #[.int .i64 q, .int .i64 p] 23)).alloc (.cells #[.int .i64 0, .int .i64 0, .int .i64 0, .int .i64 0, .bool false, .int .i64 0, .int .i64 0, .int .i64 0] 35)).frozen? ⟨w.heap.size + 1, 3, none⟩ = false := by simp
  have r4 : ((w.alloc (.cells #[.int .i64 q, .int .i64 p] 23)).alloc (.cells #[.int .i64 0, .int .i64 0, .int .i64 0, .int .i64 0, .bool false, .int .i64 0, .int .i64 0, .int .i64 0] 35)).cell? ⟨w.heap.size + 1, 4, none⟩ = some (.bool false) := by simp
  have f4 : ((w.alloc (.cells #[.int .i64 q, .int .i64 p] 23)).alloc (.cells #[.int .i64 0, .int .i64 0, .int .i64 0, .int .i64 0, .bool false, .int .i64 0, .int .i64 0, .int .i64 0] 35)).frozen? ⟨w.heap.size + 1, 4, none⟩ = false := by simp
  have r5 : ((w.alloc (.cells #[.int .i64 q, .int .i64 p] 23)).alloc (.cells #[.int .i64 0, .int .i64 0, .int .i64 0, .int .i64 0, .bool false, .int .i64 0, .int .i64 0, .int .i64 0] 35)).cell? ⟨w.heap.size + 1, 5, none⟩ = some (.int .i64 0) := by simp
  have f5 : ((w.alloc (.cells #[.int .i64 q, .int .i64 p] 23)).alloc (.cells #[.int .i64 0, .int .i64 0, .int .i64 0, .int .i64 0, .bool false, .int .i64 0, .int .i64 0, .int .i64 0] 35)).frozen? ⟨w.heap.size + 1, 5, none⟩ = false := by simp
  have r6 : ((w.alloc (.cells #[.int .i64 q, .int .i64 p] 23)).alloc (.cells #[.int .i64 0, .int .i64 0, .int .i64 0, .int .i64 0, .bool false, .int .i64 0, .int .i64 0, .int .i64 0] 35)).cell? ⟨w.heap.size + 1, 6, none⟩ = some (.int .i64 0) := by simp
  have f6 : ((w.alloc (.cells #[.int .i64 q, .int .i64 p] 23)).alloc (.cells #[.int .i64 0, .int .i64 0, .int .i64 0, .int .i64 0, .bool false, .int .i64 0, .int .i64 0, .int .i64 0] 35)).frozen? ⟨w.heap.size + 1, 6, none⟩ = false := by simp
  have r7 : ((w.alloc (.cells #[.int .i64 q, .int .i64 p] 23)).alloc (.cells #[.int .i64 0, .int .i64 0, .int .i64 0, .int .i64 0, .bool false, .int .i64 0, .int .i64 0, .int .i64 0] 35)).cell? ⟨w.heap.size + 1, 7, none⟩ = some (.int .i64 0) := by simp
  have f7 : ((w.alloc (.cells #[.int .i64 q, .int .i64 p] 23)).alloc (.cells #[.int .i64 0, .int .i64 0, .int .i64 0, .int .i64 0, .bool false, .int .i64 0, .int .i64 0, .int .i64 0] 35)).frozen? ⟨w.heap.size + 1, 7, none⟩ = false := by simp
  have z_ : w.heap.size + 1 < ((w.alloc (.cells #[.int .i64 q, .int .i64 p] 23)).alloc (.cells #[.int .i64 0, .int .i64 0, .int .i64 0, .int .i64 0, .bool false, .int .i64 0, .int .i64 0, .int .i64 0] 35)).heap.size := by simp
  go_enter Try.func10, Try.ntmps10
  go_wp2_with fail
  refine (fvalid_ok q p _ h).mono ?_
  rintro e w1 ⟨rfl, hb1⟩
  replace k0_0 := keep hb1 k0_0
  replace k0_1 := keep hb1 k0_1
  replace r0 := keep hb1 r0
  replace r1 := keep hb1 r1
  replace r2 := keep hb1 r2
  replace r3 := keep hb1 r3
  replace r4 := keep hb1 r4
  replace r5 := keep hb1 r5
  replace r6 := keep hb1 r6
  replace r7 := keep hb1 r7
  replace f0 := keepf hb1 (by omega) f0
  replace f1 := keepf hb1 (by omega) f1
  replace f2 := keepf hb1 (by omega) f2
  replace f3 := keepf hb1 (by omega) f3
  replace f4 := keepf hb1 (by omega) f4
  replace f5 := keepf hb1 (by omega) f5
  replace f6 := keepf hb1 (by omega) f6
  replace f7 := keepf hb1 (by omega) f7
  replace z_ := Nat.lt_of_lt_of_le z_ hb1.size
  replace HB := below_call HB (Nat.le_refl _) hb1
  clear hb1
  go_wp2
  refine bodyPost_ret (v := .tuple #[bud q p 0 0 false q at_ (at_ + p), .nilIface]) (by simp [results, Try.results10, go_sem, r0, r1, r2, r3, r4, r5, r6, r7]) rfl ⟨rfl, ?_⟩
  repeat (first | (with_reducible exact HB) | (with_reducible refine below_drewN' ?_ _) | (with_reducible refine Below.drew ?_) | (with_reducible refine Below.setCell ?_ (by simp <;> omega) _))

set_option maxHeartbeats 1000000 in
set_option maxRecDepth 100000 in
theorem bnew_neg (q p at_ : Int) (w : World) (h0 : at_ < 0) :
    Calls Try.prog 10 #[.agg #[.int .i64 q, .int .i64 p], .int .i64 at_] w fun e w' => e = .returned (.tuple #[budZ, .iface 47 (.int .i64 1)]) ∧ Below w.heap.size w w' := by
  have c1 : decide (at_ < 0) = true := by simp; omega
  have HB : Below w.heap.size w (w.alloc (.cells #[.int .i64 q, .int .i64 p] 23)) := ((Below.refl _ w).alloc (by simp) _)
  have k0_0 : (w.alloc (.cells #[.int .i64 q, .int .i64 p] 23)).cell? ⟨w.heap.size, 0, none⟩ = some (.int .i64 q) := by simp
  have k0_1 : (w.alloc (.cells #[.int .i64 q, .int .i64 p] 23)).cell? ⟨w.heap.size, 1, none⟩ = some (.int .i64 p) := by simp
  replace HB : Below w.heap.size w ((w.alloc (.cells #[.int .i64 q, .int .i64 p] 23)).alloc (.cells #[.int .i64 0, .int .i64 0, .int .i64 0, .int .i64 0, .bool false, .int .i64 0, .int .i64 0, .int .i64 0] 35)) := HB.alloc (by simp) _
  replace k0_0 : ((w.alloc (.cells #[.int .i64 q, .int .i64 p] 23)).alloc (.cells #[.int .i64 0, .int .i64 0, .int .i64 0, .int .i64 0, .bool false, .int .i64 0, .int .i64 0, .int .i64 0] 35)).cell? ⟨w.heap.size, 0, none⟩ = some (.int .i64 q) := by simp
  replace k0_1 : ((w.alloc (.cells #[.int .i64 q, .int .i64 p] 23)).alloc (.cells #[.int .i64 0, .int .i64 0, .int .i64 0, .int .i64 0, .bool false, .int .i64 0, .int .i64 0, .int .i64 0] 35)).cell? ⟨w.heap.size, 1, none⟩ = some (.int .i64 p) := by simp
  have r0 : ((w.alloc (.cells #[.int .i64 q, .int .i64 p] 23)).alloc (.cells #[.int .i64 0, .int .i64 0, .int .i64 0, .int .i64 0, .bool false, .int .i64 0, .int .i64 0, .int .i64 0] 35)).cell? ⟨w.heap.size + 1, 0, none⟩ = some (.int .i64 0) := by simp
  have f0 : ((w.alloc (.cells #[.int .i64 q, .int .i64 p] 23)).alloc (.cells #[.int .i64 0, .int .i64 0, .int .i64 0, .int .i64 0, .bool false, .int .i64 0, .int .i64 0, .int .i64 0] 35)).frozen? ⟨w.heap.size + 1, 0, none⟩ = false := by simp
  have r1 : ((w.alloc (.cells #[.int .i64 q, .int .i64 p] 23)).alloc (.cells #[.int .i64 0, .int .i64 0, .int .i64 0, .int .i64 0, .bool false, .int .i64 0, .int .i64 0, .int .i64 0] 35)).cell? ⟨w.heap.size + 1, 1, none⟩ = some (.int .i64 0) := by simp
  have f1 : ((w.alloc (.cells #[.int .i64 q, .int .i64 p] 23)).alloc (.cells #[.int .i64 0, .int .i64 0, .int .i64 0, .int .i64 0, .bool false, .int .i64 0, .int .i64 0, .int .i64 0] 35)).frozen? ⟨w.heap.size + 1, 1, none⟩ = false := by simp
  have r2 : ((w.alloc (.cells #[.int .i64 q, .int .i64 p] 23)).alloc (.cells #[.int .i64 0, .int .i64 0, .int .i64 0, .int .i64 0, .bool false, .int .i64 0, .int .i64 0, .int .i64 0] 35)).cell? ⟨w.heap.size + 1, 2, none⟩ = some (.int .i64 0) := by simp
  have f2 : ((w.alloc (.cells #[.int .i64 q, .int .i64 p] 23)).alloc (.cells #[.int .i64 0, .int .i64 0, .int .i64 0, .int .i64 0, .bool false, .int .i64 0, .int .i64 0, .int .i64 0] 35)).frozen? ⟨w.heap.size + 1, 2, none⟩ = false := by simp
  have r3 : ((w.alloc (.cells #[.int .i64 q, .int .i64 p] 23)).alloc (.cells #[.int .i64 0, .int .i64 0, .int .i64 0, .int .i64 0, .bool false, .int .i64 0, .int .i64 0, .int .i64 0] 35)).cell? ⟨w.heap.size + 1, 3, none⟩ = some (.int .i64 0) := by simp
  have f3 : ((w.alloc (.cells #[.int .i64 q, .int .i64 p] 23)).alloc (.cells #[.int .i64 0, .int .i64 0, .int .i64 0, .int .i64 0, .bool false, .int .i64 0, .int .i64 0, .int .i64 0] 35)).frozen? ⟨w.heap.size + 1, 3, none⟩ = false := by simp
  have r4 : ((w.alloc (.cells #[.int .i64 q, .int .i64 p] 23)).alloc (.cells #[.int .i64 0, .int .i64 0, .int .i64 0, .int .i64 0, .bool false, .int .i64 0, .int .i64 0, .int .i64 0] 35)).cell? ⟨w.heap.size + 1, 4, none⟩ = some (.bool false) := by simp
  have f4 : ((w.alloc (.cells #[.int .i64 q, .int .i64 p] 23)).alloc (.cells #[.int .i64 0, .int .i64 0, .int .i64 0, .int .i64 0, .bool false, .int .i64 0, .int .i64 0, .int .i64 0] 35)).frozen? ⟨w.heap.size + 1, 4, none⟩ = false := by simp
  have r5 : ((w.alloc (.cells #[.int .i64 q, .int .i64 p] 23)).alloc (.cells #[.int .i64 0, .int .i64 0, .int .i64 0, .int .i64 0, .bool false, .int .i64 0, .int .i64 0, .int .i64 0] 35)).cell? ⟨w.heap.size + 1, 5, none⟩ = some (.int .i64 0) := by simp
  have f5 : ((w.alloc (.cells #[.int .i64 q, .int .i64 p] 23)).alloc (.cells #[.int .i64 0, .int .i64 0, .int .i64 0, .int .i64 0, .bool false, .int .i64 0, .int .i64 0, .int .i64 0] 35)).frozen? ⟨w.heap.size + 1, 5, none⟩ = false := by simp
  have r6 : ((w.alloc (.cells #[.int .i64 q, .int .i64 p] 23)).alloc (.cells #[.int .i64 0, .int .i64 0, .int .i64 0, .int .i64 0, .bool false, .int .i64 0, .int .i64 0, .int .i64 0] 35)).cell? ⟨w.heap.size + 1, 6, none⟩ = some (.int .i64 0) := by simp
  have f6 : ((w.alloc (.cells #[.int .i64 q, .int .i64 p] 23)).alloc (.cells #[.int .i64 0, .int .i64 0, .int .i64 0, .int .i64 0, .bool false, .int .i64 0, .int .i64 0, .int .i64 0] 35)).frozen? ⟨w.heap.size + 1, 6, none⟩ = false := by simp
  have r7 : ((w.alloc (.cells #[.int .i64 q, .int .i64 p] 23)).alloc (.cells #[.int .i64 0, .int .i64 0, .int .i64 0, .int .i64 0, .bool false, .int .i64 0, .int .i64 0, .int .i64 0] 35)).cell? ⟨w.heap.size + 1, 7, none⟩ = some (.int .i64 0) := by simp
  have f7 : ((w.alloc (.cells #[.int .i64 q, .int .i64 p] 23)).alloc (.cells #[.int .i64 0, .int .i64 0, .int .i64 0, .int .i64 0, .bool false, .int .i64 0, .int .i64 0, .int .i64 0] 35)).frozen? ⟨w.heap.size + 1, 7, none⟩ = false := by simp
  have z_ : w.heap.size + 1 < ((w.alloc (.cells #[.int .i64 q, .int .i64 p] 23)).alloc (.cells #[.int .i64 0, .int .i64 0, .int .i64 0, .int .i64 0, .bool false, .int .i64 0, .int .i64 0, .int .i64 0] 35)).heap.size := by simp
  go_enter Try.func10, Try.ntmps10
  go_wp2
  refine bodyPost_ret (v := .tuple #[budZ, .iface 47 (.int .i64 1)]) (by simp [results, Try.results10, go_sem, r0, r1, r2, r3, r4, r5, r6, r7]) rfl ⟨rfl, ?_⟩
  repeat (first | (with_reducible exact HB) | (with_reducible refine below_drewN' ?_ _) | (with_reducible refine Below.drew ?_) | (with_reducible refine Below.setCell ?_ (by simp <;> omega) _))

set_option maxHeartbeats 1000000 in
set_option maxRecDepth 100000 in
theorem bnew_bad (q p at_ : Int) (w : World) (h0 : 0 ≤ at_) (h : ¬ Vld q p) :
    Calls Try.prog 10 #[.agg #[.int .i64 q, .int .i64 p], .int .i64 at_] w fun e w' => e = .returned (.tuple #[budZ, .iface 47 (.int .i64 2)]) ∧ Below w.heap.size w w' := by
  have c1 : decide (at_ < 0) = false := by simp; omega
  have HB : Below w.heap.size w (w.alloc (.cells #[.int .i64 q, .int .i64 p] 23)) := ((Below.refl _ w).alloc (by simp) _)
  have k0_0 : (w.alloc (.cells #[.int .i64 q, .int .i64 p] 23)).cell? ⟨w.heap.size, 0, none⟩ = some (.int .i64 q) := by simp
  have k0_1 : (w.alloc (.cells #[.int .i64 q, .int .i64 p] 23)).cell? ⟨w.heap.size, 1, none⟩ = some (.int .i64 p) := by simp
  replace HB : Below w.heap.size w ((w.alloc (.cells #[.int .i64 q, .int .i64 p] 23)).alloc (.cells #[.int .i64 0, .int .i64 0, .int .i64 0, .int .i64 0, .bool false, .int .i64 0, .int .i64 0, .int .i64 0] 35)) := HB.alloc (by simp) _
  replace k0_0 : ((w.alloc (.cells #[.int .i64 q, .int .i64 p] 23)).alloc (.cells #[.int .i64 0, .int .i64 0, .int .i64 0, .int .i64 0, .bool false, .int .i64 0, .int .i64 0, .int .i64 0] 35)).cell? ⟨w.heap.size, 0, none⟩ = some (.int .i64 q) := by simp
  replace k0_1 : ((w.alloc (.cells #[.int .i64 q, .int .i64 p] 23)).alloc (.cells #[.int .i64 0, .int .i64 0, .int .i64 0, .int .i64 0, .bool false, .int .i64 0, .int .i64 0, .int .i64 0] 35)).cell? ⟨w.heap.size, 1, none⟩ = some (.int .i64 p) := by simp
  have r0 : ((w.alloc (.cells #[.int .i64 q, .int .i64 p] 23)).alloc (.cells #[.int .i64 0, .int .i64 0, .int .i64 0, .int .i64 0, .bool false, .int .i64 0, .int .i64 0, .int .i64 0] 35)).cell? ⟨w.heap.size + 1, 0, none⟩ = some (.int .i64 0) := by simp
  have f0 : ((w.alloc (.cells #[.int .i64 q, .int .i64 p] 23)).alloc (.cells #[.int .i64 0, .int .i64 0, .int .i64 0, .int .i64 0, .bool false, .int .i64 0, .int .i64 0, .int .i64 0] 35)).frozen? ⟨w.heap.size + 1, 0, none⟩ = false := by simp
  have r1 : ((w.alloc (.cells #[.int .i64 q, .int .i64 p] 23)).alloc (.cells #[.int .i64 0, .int .i64 0, .int .i64 0, .int .i64 0, .bool false, .int .i64 0, .int .i64 0, .int .i64 0] 35)).cell? ⟨w.heap.size + 1, 1, none⟩ = some (.int .i64 0) := by simp
  have f1 : ((w.alloc (.cells #[.int .i64 q, .int .i64 p] 23)).alloc (.cells #[.int .i64 0, .int .i64 0, .int .i64 0, .int .i64 0, .bool false, .int .i64 0, .int .i64 0, .int .i64 0] 35)).frozen? ⟨w.heap.size + 1, 1, none⟩ = false := by simp
  have r2 : ((w.alloc (.cells #[.int .i64 q, .int .i64 p] 23)).alloc (.cells #[.int .i64 0, .int .i64 0, .int .i64 0, .int .i64 0, .bool false, .int .i64 0, .int .i64 0, .int .i64 0] 35)).cell? ⟨w.heap.size + 1, 2, none⟩ = some (.int .i64 0) := by simp
  have f2 : ((w.alloc (.cells #[.int .i64 q, .int .i64 p] 23)).alloc (.cells #[.int .i64 0, .int .i64 0, .int .i64 0, .int .i64 0, .bool false, .int .i64 0, .int .i64 0, .int .i64 0] 35)).frozen? ⟨w.heap.size + 1, 2, none⟩ = false := by simp
  have r3 : ((w.alloc (.cells #[.int .i64 q, .int .i64 p] 23)).alloc (.cells #[.int .i64 0, .int .i64 0, .int .i64 0, .int .i64 0, .bool false, .int .i64 0, .int .i64 0, .int .i64 0] 35)).cell? ⟨w.heap.size + 1, 3, none⟩ = some (.int .i64 0) := by simp
  have f3 : ((w.alloc (.cells #[.int .i64 q, .int .i64 p] 23)).alloc (.cells #[.int .i64 0, .int .i64 0, .int .i64 0, .int .i64 0, .bool false, .int .i64 0, .int .i64 0, .int .i64 0] 35)).frozen? ⟨w.heap.size + 1, 3, none⟩ = false := by simp
  have r4 : ((w.alloc (.cells #[.int .i64 q, .int .i64 p] 23)).alloc (.cells #[.int .i64 0, .int .i64 0, .int .i64 0, .int .i64 0, .bool false, .int .i64 0, .int .i64 0, .int .i64 0] 35)).cell? ⟨w.heap.size + 1, 4, none⟩ = some (.bool false) := by simp
  have f4 : ((w.alloc (.cells #[.int .i64 q, .int .i64 p] 23)).alloc (.cells #[.int .i64 0, .int .i64 0, .int .i64 0, .int .i64 0, .bool false, .int .i64 0, .int .i64 0, .int .i64 0] 35)).frozen? ⟨w.heap.size + 1, 4, none⟩ = false := by simp
  have r5 : ((w.alloc (.cells #[.int .i64 q, .int .i64 p] 23)).alloc (.cells #[.int .i64 0, .int .i64 0, .int .i64 0, .int .i64 0, .bool false, .int .i64 0, .int .i64 0, .int .i64 0] 35)).cell? ⟨w.heap.size + 1, 5, none⟩ = some (.int .i64 0) := by simp
  have f5 : ((w.alloc (.cells #[.int .i64 q, .int .i64 p] 23)).alloc (.cells #[.int .i64 0, .int .i64 0, .int .i64 0, .int .i64 0, .bool false, .int .i64 0, .int .i64 0, .int .i64 0] 35)).frozen? ⟨w.heap.size + 1, 5, none⟩ = false := by simp
  have r6 : ((w.alloc (.cells #[.int .i64 q, .int .i64 p] 23)).alloc (.cells #[.int .i64 0, .int .i64 0, .int .i64 0, .int .i64 0, .bool false, .int .i64 0, .int .i64 0, .int .i64 0] 35)).cell? ⟨w.heap.size + 1, 6, none⟩ = some (.int .i64 0) := by simp
  have f6 : ((w.alloc (.cells #[.int .i64 q, .int .i64 p] 23)).alloc (.cells #[.int .i64 0, .int .i64 0, .int .i64 0, .int .i64 0, .bool false, .int .i64 0, .int .i64 0, .int .i64 0] 35)).frozen? ⟨w.heap.size + 1, 6, none⟩ = false := by simp
  have r7 : ((w.alloc (.cells #[.int .i64 q, .int .i64 p] 23)).alloc (.cells #[.int .i64 0, .int .i64 0, .int .i64 0, .int .i64 0, .bool false, .int .i64 0, .int .i64 0, .int .i64 0] 35)).cell? ⟨w.heap.size + 1, 7, none⟩ = some (.int .i64 0) := by simp
  have f7 : ((w.alloc (.cells #[.int .i64 q, .int .i64 p] 23)).alloc (.cells #[.int .i64 0, .int .i64 0, .int .i64 0, .int .i64 0, .bool false, .int .i64 0, .int .i64 0, .int .i64 0] 35)).frozen? ⟨w.heap.size + 1, 7, none⟩ = false := by simp
  have z_ : w.heap.size + 1 < ((w.alloc (.cells #[.int .i64 q, .int .i64 p] 23)).alloc (.cells #[.int .i64 0, .int .i64 0, .int .i64 0, .int .i64 0, .bool false, .int .i64 0, .int .i64 0, .int .i64 0] 35)).heap.size := by simp
  go_enter Try.func10, Try.ntmps10
  go_wp2_with fail
  refine (fvalid_bad q p _ h).mono ?_
  rintro e w1 ⟨rfl, hb1⟩
  replace k0_0 := keep hb1 k0_0
  replace k0_1 := keep hb1 k0_1
  replace r0 := keep hb1 r0
  replace r1 := keep hb1 r1
  replace r2 := keep hb1 r2
  replace r3 := keep hb1 r3
  replace r4 := keep hb1 r4
  replace r5 := keep hb1 r5
  replace r6 := keep hb1 r6
  replace r7 := keep hb1 r7
  replace f0 := keepf hb1 (by omega) f0
  replace f1 := keepf hb1 (by omega) f1
  replace f2 := keepf hb1 (by omega) f2
  replace f3 := keepf hb1 (by omega) f3
  replace f4 := keepf hb1 (by omega) f4
  replace f5 := keepf hb1 (by omega) f5
  replace f6 := keepf hb1 (by omega) f6
  replace f7 := keepf hb1 (by omega) f7
  replace z_ := Nat.lt_of_lt_of_le z_ hb1.size
  replace HB := below_call HB (Nat.le_refl _) hb1
  clear hb1
  go_wp2
  refine bodyPost_ret (v := .tuple #[budZ, .iface 47 (.int .i64 2)]) (by simp [results, Try.results10, go_sem, r0, r1, r2, r3, r4, r5, r6, r7]) rfl ⟨rfl, ?_⟩
  repeat (first | (with_reducible exact HB) | (with_reducible refine below_drewN' ?_ _) | (with_reducible refine Below.drew ?_) | (with_reducible refine Below.setCell ?_ (by simp <;> omega) _))

set_option maxHeartbeats 1000000 in
set_option maxRecDepth 100000 in
theorem bnew_time (q p at_ : Int) (w : World) (h0 : 0 ≤ at_) (h1 : 1073741824 < at_) (h : Vld q p) :
    Calls Try.prog 10 #[.agg #[.int .i64 q, .int .i64 p], .int .i64 at_] w fun e w' => e = .returned (.tuple #[budZ, .iface 47 (.int .i64 60)]) ∧ Below w.heap.size w w' := by
  have c1 : decide (at_ < 0) = false := by simp; omega
  have c2 : decide (1073741824 < at_) = true := by simp; omega
  have HB : Below w.heap.size w (w.alloc (.cells #[.int .i64 q, .int .i64 p] 23)) := ((Below.refl _ w).alloc (by simp) _)
  have k0_0 : (w.alloc (.cells #[.int .i64 q, .int .i64 p] 23)).cell? ⟨w.heap.size, 0, none⟩ = some (.int .i64 q) := by simp
  have k0_1 : (w.alloc (.cells #[.int .i64 q, .int .i64 p] 23)).cell? ⟨w.heap.size, 1, none⟩ = some (.int .i64 p) := by simp
  replace HB : Below w.heap.size w ((w.alloc (.cells #[.int .i64 q, .int .i64 p] 23)).alloc (.cells #[.int .i64 0, .int .i64 0, .int .i64 0, .int .i64 0, .bool false, .int .i64 0, .int .i64 0, .int .i64 0] 35)) := HB.alloc (by simp) _
  replace k0_0 : ((w.alloc (.cells #[.int .i64 q, .int .i64 p] 23)).alloc (.cells #[.int .i64 0, .int .i64 0, .int .i64 0, .int .i64 0, .bool false, .int .i64 0, .int .i64 0, .int .i64 0] 35)).cell? ⟨w.heap.size, 0, none⟩ = some (.int .i64 q) := by simp
  replace k0_1 : ((w.alloc (.cells #[.int .i64 q, .int .i64 p] 23)).alloc (.cells #[.int .i64 0, .int .i64 0, .int .i64 0, .int .i64 0, .bool false, .int .i64 0, .int .i64 0, .int .i64 0] 35)).cell? ⟨w.heap.size, 1, none⟩ = some (.int .i64 p) := by simp
  have r0 : ((w.alloc (.cells #[.int .i64 q, .int .i64 p] 23)).alloc (.cells #[.int .i64 0, .int .i64 0, .int .i64 0, .int .i64 0, .bool false, .int .i64 0, .int .i64 0, .int .i64 0] 35)).cell? ⟨w.heap.size + 1, 0, none⟩ = some (.int .i64 0) := by simp
  have f0 : ((w.alloc (.cells #[.int .i64 q, .int .i64 p] 23)).alloc (.cells #[.int .i64 0, .int .i64 0, .int .i64 0, .int .i64 0, .bool false, .int .i64 0, .int .i64 0, .int .i64 0] 35)).frozen? ⟨w.heap.size + 1, 0, none⟩ = false := by simp
  have r1 : ((w.alloc (.cells #[.int .i64 q, .int .i64 p] 23)).alloc (.cells #[.int .i64 0, .int .i64 0, .int .i64 0, .int .i64 0, .bool false, .int .i64 0, .int .i64 0, .int .i64 0] 35)).cell? ⟨w.heap.size + 1, 1, none⟩ = some (.int .i64 0) := by simp
  have f1 : ((w.alloc (.cells #[.int .i64 q, .int .i64 p] 23)).alloc (.cells #[.int .i64 0, .int .i64 0, .int .i64 0, .int .i64 0, .bool false, .int .i64 0, .int .i64 0, .int .i64 0] 35)).frozen? ⟨w.heap.size + 1, 1, none⟩ = false := by simp
  have r2 : ((w.alloc (.cells #[.int .i64 q, .int .i64 p] 23)).alloc (.cells #[.int .i64 0, .int .i64 0, .int .i64 0, .int .i64 0, .bool false, .int .i64 0, .int .i64 0, .int .i64 0] 35)).cell? ⟨w.heap.size + 1, 2, none⟩ = some (.int .i64 0) := by simp
  have f2 : ((w.alloc (.cells #[.int .i64 q, .int .i64 p] 23)).alloc (.cells #[.int .i64 0, .int .i64 0, .int .i64 0, .int .i64 0, .bool false, .int .i64 0, .int .i64 0, .int .i64 0] 35)).frozen? ⟨w.heap.size + 1, 2, none⟩ = false := by simp
  have r3 : ((w.alloc (.cells #[.int .i64 q, .int .i64 p] 23)).alloc (.cells #[.int .i64 0, .int .i64 0, .int .i64 0, .int .i64 0, .bool false, .int .i64 0, .int .i64 0, .int .i64 0] 35)).cell? ⟨w.heap.size + 1, 3, none⟩ = some (.int .i64 0) := by simp
  have f3 : ((w.alloc (.cells #[.int .i64 q, .int .i64 p] 23)).alloc (.cells #[.int .i64 0, .int .i64 0, .int .i64 0, .int .i64 0, .bool false, .int .i64 0, .int .i64 0, .int .i64 0] 35)).frozen? ⟨w.heap.size + 1, 3, none⟩ = false := by simp
  have r4 : ((w.alloc (.cells #[.int .i64 q, .int .i64 p] 23)).alloc (.cells #[.int .i64 0, .int .i64 0, .int .i64 0, .int .i64 0, .bool false, .int .i64 0, .int .i64 0, .int .i64 0] 35)).cell? ⟨w.heap.size + 1, 4, none⟩ = some (.bool false) := by simp
  have f4 : ((w.alloc (.cells #[.int .i64 q, .int .i64 p] 23)).alloc (.cells #[.int .i64 0, .int .i64 0, .int .i64 0, .int .i64 0, .bool false, .int .i64 0, .int .i64 0, .int .i64 0] 35)).frozen? ⟨w.heap.size + 1, 4, none⟩ = false := by simp
  have r5 : ((w.alloc (.cells #[.int .i64 q, .int .i64 p] 23)).alloc (.cells #[.int .i64 0, .int .i64 0, .int .i64 0, .int .i64 0, .bool false, .int .i64 0, .int .i64 0, .int .i64 0] 35)).cell? ⟨w.heap.size + 1, 5, none⟩ = some (.int .i64 0) := by simp
  have f5 : ((w.alloc (.cells #[.int .i64 q, .int .i64 p] 23)).alloc (.cells #[.int .i64 0, .int .i64 0, .int .i64 0, .int .i64 0, .bool false, .int .i64 0, .int .i64 0, .int .i64 0] 35)).frozen? ⟨w.heap.size + 1, 5, none⟩ = false := by simp
  have r6 : ((w.alloc (.cells #[.int .i64 q, .int .i64 p] 23)).alloc (.cells #[.int .i64 0, .int .i64 0, .int .i64 0, .int .i64 0, .bool false, .int .i64 0, .int .i64 0, .int .i64 0] 35)).cell? ⟨w.heap.size + 1, 6, none⟩ = some (.int .i64 0) := by simp
  have f6 : ((w.alloc (.cells #[.int .i64 q, .int .i64 p] 23)).alloc (.cells #[.int .i64 0, .int .i64 0, .int .i64 0, .int .i64 0, .bool false, .int .i64 0, .int .i64 0, .int .i64 0] 35)).frozen? ⟨w.heap.size + 1, 6, none⟩ = false := by simp
  have r7 : ((w.alloc (.cells #[.int .i64 q, .int .i64 p] 23)).alloc (.cells #[.int .i64 0, .int .i64 0, .int .i64 0, .int .i64 0, .bool false, .int .i64 0, .int .i64 0, .int .i64 0] 35)).cell? ⟨w.heap.size + 1, 7, none⟩ = some (.int .i64 0) := by simp
  have f7 : ((w.alloc (.cells #[.int .i64 q, .int .i64 p] 23)).alloc (.cells #[.int .i64 0, .int .i64 0, .int .i64 0, .int .i64 0, .bool false, .int .i64 0, .int .i64 0, .int .i64 0] 35)).frozen? ⟨w.heap.size + 1, 7, none⟩ = false := by simp
  have z_ : w.heap.size + 1 < ((w.alloc (.cells #[.int .i64 q, .int .i64 p] 23)).alloc (.cells #[.int .i64 0, .int .i64 0, .int .i64 0, .int .i64 0, .bool false, .int .i64 0, .int .i64 0, .int .i64 0] 35)).heap.size := by simp
  go_enter Try.func10, Try.ntmps10
  go_wp2_with fail
  refine (fvalid_ok q p _ h).mono ?_
  rintro e w1 ⟨rfl, hb1⟩
  replace k0_0 := keep hb1 k0_0
  replace k0_1 := keep hb1 k0_1
  replace r0 := keep hb1 r0
  replace r1 := keep hb1 r1
  replace r2 := keep hb1 r2
  replace r3 := keep hb1 r3
  replace r4 := keep hb1 r4
  replace r5 := keep hb1 r5
  replace r6 := keep hb1 r6
  replace r7 := keep hb1 r7
  replace f0 := keepf hb1 (by omega) f0
  replace f1 := keepf hb1 (by omega) f1
  replace f2 := keepf hb1 (by omega) f2
  replace f3 := keepf hb1 (by omega) f3
  replace f4 := keepf hb1 (by omega) f4
  replace f5 := keepf hb1 (by omega) f5
  replace f6 := keepf hb1 (by omega) f6
  replace f7 := keepf hb1 (by omega) f7
  replace z_ := Nat.lt_of_lt_of_le z_ hb1.size
  replace HB := below_call HB (Nat.le_refl _) hb1
  clear hb1
  go_wp2
  refine bodyPost_ret (v := .tuple #[budZ, .iface 47 (.int .i64 60)]) (by simp [results, Try.results10, go_sem, r0, r1, r2, r3, r4, r5, r6, r7]) rfl ⟨rfl, ?_⟩
  repeat (first | (with_reducible exact HB) | (with_reducible refine below_drewN' ?_ _) | (with_reducible refine Below.drew ?_) | (with_reducible refine Below.setCell ?_ (by simp <;> omega) _))





end Go.Proofs.Ytggcahcdhjnemaa
