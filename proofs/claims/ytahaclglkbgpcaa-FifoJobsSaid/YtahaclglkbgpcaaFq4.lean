/- Queues of ints: Push where there is room. -/
import Derived.Test.YtahaclglkbgpcaaFq2
import Derived.Test.YtahaclglkbgpcaaFq3
set_option linter.unusedVariables false
set_option linter.unusedSimpArgs false
namespace Go.Proofs.Ytahaclglkbgpcaa
open Go.RowKit
set_option maxRecDepth 100000

theorem push_room (q g : Nat) (T : TypeId) (n cap first many lim : Nat) (cells : List Value) (w : World) (x : Int) (h : QI w q T 3 (.slice (some ⟨g, 0, none⟩) n cap) n cap first many lim cells) (hf : first < n) (hm : many < n) (hne : g ≠ q) :
    Calls Try.prog 11 #[.pointer (some ⟨q, 0, none⟩), .int .i64 x] w fun e w' => e = .returned .nilIface ∧ QI w' q T 3 (.slice (some ⟨g, 0, none⟩) n cap) n cap first (many + 1) lim (cells.set ((first + many) % n) (.int .i64 x)) ∧ Chg (fun k => k = q ∨ k = g) w w' := by
  have c0 := h.c0
  have c2 := h.c2
  have L := room_ok q many lim w h.c2 h.c3 (by have := h.n_le; omega) h.lim_le
  have b4 : lim ≤ 4096 := h.lim_le
  have b3 : n ≤ lim := h.n_le
  have HH := Lib.hid h
  clear h
  have t0 : ((((lim - many : Nat) : Int)) == 0) = false := by simp; omega
  have t1 : ((many : Int) == (n : Int)) = false := by simp; omega
  go_enter Try.func11, Try.ntmps11
  go_wp2_with fail
  refine L.mono ?_
  rintro e w1 ⟨rfl, rfl⟩
  go_wp2_with fail
  go_quiet (fail)
  obtain ⟨w1, hw1⟩ : ∃ x, x = w.drewN nq := ⟨_, rfl⟩
  rw [← hw1]
  have H1 : QI w1 q T 3 (.slice (some ⟨g, 0, none⟩) n cap) n cap first many lim cells := HH.out.heap (by rw [hw1]; rfl)
  have X1 : Chg (fun k => k = q ∨ k = g) w w1 := by rw [hw1]; exact (Chg.refl _ w).drewN nq
  clear c0 c2 hw1
  have c0 := H1.c0
  have c2 := H1.c2
  have HH1 := Lib.hid H1
  clear H1
  obtain ⟨j, hj⟩ : ∃ j, j = (first + many) % n := ⟨_, rfl⟩
  have hjn : j < n := by rw [hj]; exact Nat.mod_lt _ (by omega)
  have hlen := HH1.out.len
  have hcell : ∃ u, w1.cell? ⟨g, j, none⟩ = some u := ⟨cells[j]'(by omega), by rw [HH1.out.own.cellAt j (by omega)]; simp [hlen, hjn]⟩
  obtain ⟨u, hcell⟩ := hcell
  have hfz : w1.frozen? ⟨g, j, none⟩ = false := HH1.out.own.frozenAt j
  have A : ∀ W : World, W.heap = w1.heap → Calls Try.prog 46 #[.pointer (some ⟨q, 0, none⟩), .int .i64 many] W fun e w' => e = .returned (.int .i64 (j : Int)) ∧ ∃ d, w' = W.drewN d := fun W e => by
    have HW := HH1.out.heap e
    have := at_q q _ cap many first n W (by omega) hf (by omega) HW.c0 HW.c1
    rw [← hj] at this
    exact this
  have HA := Lib.hid A
  clear A
  have HJ := Lib.hid hj
  clear hj
  clear hlen
  go_wp2_with fail
  go_region_law (first
    | (go_simp; go_at_call 46; refine (HA.out (World.drew w1) rfl).mono ?_; rintro e w' ⟨rfl, d, rfl⟩))
  all_goals
    obtain ⟨w2, hw2⟩ : ∃ y, y = (w1.drewN (1 + d)).setCell ⟨g, j, none⟩ (.int .i64 x) := ⟨_, rfl⟩
    rw [← hw2]
    have H2 : QI w2 q T 3 (.slice (some ⟨g, 0, none⟩) n cap) n cap first many lim (cells.set j (.int .i64 x)) := by
      rw [hw2]; exact (QI.heap HH1.out (w' := w1.drewN (1 + d)) rfl).setRing hne j _
    have X2 : Chg (fun k => k = q ∨ k = g) w w2 := by rw [hw2]; exact (X1.drewN _).setCell _ _ (.inr rfl)
    clear c0 c2 hcell hfz hw2
    have c2 := H2.c2
    have z2 := H2.fz 2
    have HH2 := Lib.hid H2
    clear H2
    go_wp2
    go_ret
    refine ⟨rfl, ?_, X2.setCell _ _ (.inl rfl)⟩
    rw [← HJ.out]
    exact HH2.out.set2 (many + 1) (by omega)

end Go.Proofs.Ytahaclglkbgpcaa
