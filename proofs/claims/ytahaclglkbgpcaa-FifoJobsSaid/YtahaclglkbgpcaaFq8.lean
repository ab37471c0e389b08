/- Queues of ints: New, At; the number of an error. -/
import Derived.Test.YtahaclglkbgpcaaFqS2
set_option linter.unusedVariables false
set_option linter.unusedSimpArgs false
namespace Go.Proofs.Ytahaclglkbgpcaa
open Go.RowKit
set_option maxRecDepth 100000

theorem new_ok (lim : Nat) (w : World) (h0 : 1 ≤ lim) (h1 : lim ≤ 4096) :
    Calls Try.prog 9 #[.int .i64 lim] w fun e w' => e = .returned (.tuple #[.pointer (some ⟨w.heap.size, 0, none⟩), .nilIface]) ∧ Qu IsI 84 3 w' w.heap.size lim [] (fun k => k = w.heap.size) ∧ Below w.heap.size w w' := by
  have t0 : decide ((lim : Int) < 1) = false := by simp; omega
  have t1 : decide ((4096 : Int) < lim) = false := by simp; omega
  go_enter Try.func9, Try.ntmps9
  go_wp2_with fail
  go_ret2
  refine ⟨rfl, ⟨.slice none 0 0, 0, 0, 0, [], ⟨?_, World.ownsRow_nil _ _ _ _, .inl ⟨rfl, rfl, rfl⟩, Nat.le_refl _, Nat.zero_le _, h1⟩, by simp, rfl, fun k => by simp [Value.ownBlock]⟩, (Below.refl _ w).alloc (Nat.le_refl _) _⟩
  exact heap_alloc_new w _

theorem new_low (lim : Int) (w : World) (h0 : lim < 1) :
    Calls Try.prog 9 #[.int .i64 lim] w fun e w' => e = .returned (.tuple #[.pointer none, .iface 94 (.int .i64 1)]) ∧ w = w' := by
  have t0 : decide (lim < 1) = true := by simpa
  go_enter Try.func9, Try.ntmps9
  go_wp2_with fail
  go_ret2
  exact ⟨rfl, rfl⟩

theorem at_none (q : Nat) (i many : Int) (w : World) (c2 : w.cell? ⟨q, 2, none⟩ = some (.int .i64 many)) (h0 : 0 ≤ i) (h1 : many ≤ i) :
    Calls Try.prog 40 #[.pointer (some ⟨q, 0, none⟩), .int .i64 i] w fun e w' => e = .returned (.tuple #[.int .i64 0, .bool false]) ∧ w = w' := by
  go_enter Try.func40, Try.ntmps40
  go_wp2_with fail
  refine (has_hi q i many w c2 h0 h1).mono ?_
  rintro e w1 ⟨rfl, rfl⟩
  go_wp2_with fail
  go_ret2
  exact ⟨rfl, rfl⟩

theorem num_nil (w : World) : Calls Try.prog 28 #[.nilIface] w fun e w' => e = .returned (.int .i64 0) ∧ w = w' := by
  go_enter Try.func28, Try.ntmps28
  go_wp2_with fail
  go_ret
  exact ⟨rfl, rfl⟩

theorem assertErrno (n : Int) (w : World) : Sem.run Try.prog (Instr.typeAssert (.iface 94 (.int .i64 n)) 25 94 true) w = .ok (.tuple #[.int .i64 n, .bool true]) w := by
  simp [Instr.typeAssert, run_underlying Try.underlying94]
attribute [local go_sem high] assertErrno

theorem num_errno (n : Int) (w : World) : Calls Try.prog 28 #[.iface 94 (.int .i64 n)] w fun e w' => e = .returned (.int .i64 n) ∧ w = w' := by
  go_enter Try.func28, Try.ntmps28
  go_wp2_with fail
  go_ret
  exact ⟨rfl, rfl⟩

theorem at_some (q g : Nat) (T : TypeId) (n cap first many lim i : Nat) (cells : List Value) (x : Int) (w : World) (h : QI w q T 3 (.slice (some ⟨g, 0, none⟩) n cap) n cap first many lim cells) (hf : first < n) (hm : i < many) (hx : cells[(first + i) % n]? = some (.int .i64 x)) :
    Calls Try.prog 40 #[.pointer (some ⟨q, 0, none⟩), .int .i64 i] w fun e w' => e = .returned (.tuple #[.int .i64 x, .bool true]) ∧ Below w.heap.size w w' := by
  have c0 := h.c0
  have c2 := h.c2
  have A := has_t q i many w c2 (by omega) (by omega)
  obtain ⟨j, hj⟩ : ∃ j, j = (first + i) % n := ⟨_, rfl⟩
  have hjn : j < n := by rw [hj]; exact Nat.mod_lt _ (by omega)
  have hcell : w.cell? ⟨g, j, none⟩ = some (.int .i64 x) := by rw [h.own.cellAt j (by omega), hj]; exact hx
  have B : ∀ W : World, W.heap = w.heap → Calls Try.prog 46 #[.pointer (some ⟨q, 0, none⟩), .int .i64 i] W fun e w' => e = .returned (.int .i64 (j : Int)) ∧ ∃ d, w' = W.drewN d := fun W e => by
    have HW := h.heap e
    have := at_q q _ cap i first n W (by have := h.n_le; have := h.lim_le; omega) hf (by have := h.many_le; omega) HW.c0 HW.c1
    rw [← hj] at this
    exact this
  have HB := Lib.hid B
  clear B h hx hj hm
  go_enter Try.func40, Try.ntmps40
  go_wp2_with fail
  refine A.mono ?_
  rintro e w1 ⟨rfl, rfl⟩
  go_wp2_with fail
  go_region_law (first
    | (go_simp; go_at_call 46; refine (HB.out (World.drew w) rfl).mono ?_; rintro e w' ⟨rfl, d, rfl⟩))
  all_goals
    go_wp2
    go_ret2
    exact ⟨rfl, below_drewN' (Below.refl _ w) _⟩

theorem push_full (q lim : Nat) (x : Int) (w : World) (c2 : w.cell? ⟨q, 2, none⟩ = some (.int .i64 (lim : Int))) (c3 : w.cell? ⟨q, 3, none⟩ = some (.int .i64 (lim : Int))) (h2 : lim ≤ 4096) :
    Calls Try.prog 11 #[.pointer (some ⟨q, 0, none⟩), .int .i64 x] w fun e w' => e = .returned (.iface 94 (.int .i64 40)) ∧ w = w' := by
  have L := room_ok q lim lim w c2 c3 (Nat.le_refl _) h2
  rw [Nat.sub_self] at L
  go_enter Try.func11, Try.ntmps11
  go_wp2_with fail
  refine L.mono ?_
  rintro e w1 ⟨rfl, rfl⟩
  go_wp2_with fail
  go_ret
  exact ⟨rfl, rfl⟩

end Go.Proofs.Ytahaclglkbgpcaa
