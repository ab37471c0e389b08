/- Queues of strings: New, Head. -/
import Derived.Test.YtahaclglkbgpcaaFqS2
import Derived.Test.YtahaclglkbgpcaaFq8
set_option linter.unusedVariables false
set_option linter.unusedSimpArgs false
namespace Go.Proofs.Ytahaclglkbgpcaa
open Go.RowKit
set_option maxRecDepth 100000
namespace St

theorem new_ok (lim : Nat) (w : World) (h0 : 1 ≤ lim) (h1 : lim ≤ 4096) :
    Calls Try.prog 47 #[.int .i64 lim] w fun e w' => e = .returned (.tuple #[.pointer (some ⟨w.heap.size, 0, none⟩), .nilIface]) ∧ Qu IsS 131 9 w' w.heap.size lim [] (fun k => k = w.heap.size) ∧ Below w.heap.size w w' := by
  have t0 : decide ((lim : Int) < 1) = false := by simp; omega
  have t1 : decide ((4096 : Int) < lim) = false := by simp; omega
  go_enter Try.func47, Try.ntmps47
  go_wp2_with fail
  go_ret2
  refine ⟨rfl, ⟨.slice none 0 0, 0, 0, 0, [], ⟨?_, World.ownsRow_nil _ _ _ _, .inl ⟨rfl, rfl, rfl⟩, Nat.le_refl _, Nat.zero_le _, h1⟩, by simp, rfl, fun k => by simp [Value.ownBlock]⟩, (Below.refl _ w).alloc (Nat.le_refl _) _⟩
  exact heap_alloc_new w _

theorem at_some (q g : Nat) (T : TypeId) (n cap first many lim i : Nat) (cells : List Value) (x : ByteArray) (w : World) (h : QI w q T 9 (.slice (some ⟨g, 0, none⟩) n cap) n cap first many lim cells) (hf : first < n) (hm : i < many) (hx : cells[(first + i) % n]? = some (.string x)) :
    Calls Try.prog 73 #[.pointer (some ⟨q, 0, none⟩), .int .i64 i] w fun e w' => e = .returned (.tuple #[.string x, .bool true]) ∧ Below w.heap.size w w' := by
  have c0 := h.c0
  have c2 := h.c2
  have A := has_t q i many w c2 (by omega) (by omega)
  obtain ⟨j, hj⟩ : ∃ j, j = (first + i) % n := ⟨_, rfl⟩
  have hjn : j < n := by rw [hj]; exact Nat.mod_lt _ (by omega)
  have hcell : w.cell? ⟨g, j, none⟩ = some (.string x) := by rw [h.own.cellAt j (by omega), hj]; exact hx
  have B : ∀ W : World, W.heap = w.heap → Calls Try.prog 71 #[.pointer (some ⟨q, 0, none⟩), .int .i64 i] W fun e w' => e = .returned (.int .i64 (j : Int)) ∧ ∃ d, w' = W.drewN d := fun W e => by
    have HW := h.heap e
    have := at_q q _ cap i first n W (by have := h.n_le; have := h.lim_le; omega) hf (by have := h.many_le; omega) HW.c0 HW.c1
    rw [← hj] at this
    exact this
  have HB := Lib.hid B
  clear B h hx hj hm
  go_enter Try.func73, Try.ntmps73
  go_wp2_with fail
  refine A.mono ?_
  rintro e w1 ⟨rfl, rfl⟩
  go_wp2_with fail
  go_region_law (first
    | (go_simp; go_at_call 71; refine (HB.out (World.drew w) rfl).mono ?_; rintro e w' ⟨rfl, d, rfl⟩))
  all_goals
    go_wp2
    go_ret2
    exact ⟨rfl, below_drewN' (Below.refl _ w) _⟩

theorem push_full (q lim : Nat) (x : ByteArray) (w : World) (c2 : w.cell? ⟨q, 2, none⟩ = some (.int .i64 (lim : Int))) (c3 : w.cell? ⟨q, 3, none⟩ = some (.int .i64 (lim : Int))) (h2 : lim ≤ 4096) :
    Calls Try.prog 48 #[.pointer (some ⟨q, 0, none⟩), .string x] w fun e w' => e = .returned (.iface 94 (.int .i64 40)) ∧ w = w' := by
  have L := room_ok q lim lim w c2 c3 (Nat.le_refl _) h2
  rw [Nat.sub_self] at L
  go_enter Try.func48, Try.ntmps48
  go_wp2_with fail
  refine L.mono ?_
  rintro e w1 ⟨rfl, rfl⟩
  go_wp2_with fail
  go_ret
  exact ⟨rfl, rfl⟩


theorem head_ok (T : TypeId) {w : World} {q lim : Nat} {vs : List Value} {x : ByteArray} {S : Nat → Prop} (h : Qu IsS T 9 w q lim (.string x :: vs) S) :
    Calls Try.prog 50 #[.pointer (some ⟨q, 0, none⟩)] w fun e w' => e = .returned (.tuple #[.string x, .bool true]) ∧ Below w.heap.size w w' := by
  obtain ⟨ring, n, cap, first, cells, h1, h2, h3, h4⟩ := h
  have hm := h1.many_le
  simp only [List.length_cons] at hm h3
  rcases h1.form with ⟨_, h0, _⟩ | ⟨g, hr, hg, hf⟩
  · omega
  · subst hr
    have hx : cells[(first + 0) % n]? = some (.string x) := by
      have := congrArg (fun l => l[0]?) h3
      simp [lst, List.getElem?_range, Nat.mod_eq_of_lt hf] at this
      have hl := h1.len
      rw [Nat.add_zero, Nat.mod_eq_of_lt hf]
      rw [List.getElem?_eq_getElem (by omega)] at this ⊢
      simpa using this
    have A := at_some q g T n cap first (vs.length + 1) lim 0 cells x w h1 hf (by omega) hx
    clear h1 h2 h3 h4 hx hm
    go_enter Try.func50, Try.ntmps50
    go_wp2_with fail
    refine A.mono ?_
    rintro e w1 ⟨rfl, hb⟩
    go_wp2_with fail
    go_ret2
    exact ⟨rfl, hb⟩

end St
end Go.Proofs.Ytahaclglkbgpcaa
