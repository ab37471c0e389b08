/- Queues of ints: Pop. -/
import Derived.Test.YtahaclglkbgpcaaFq1
set_option linter.unusedVariables false
set_option linter.unusedSimpArgs false
namespace Go.Proofs.Ytahaclglkbgpcaa
open Go.RowKit
set_option maxRecDepth 100000

theorem pop_some (q g : Nat) (T E : TypeId) (n cap first many lim : Nat) (cells : List Value) (x : Int) (w : World) (h : QI w q T E (.slice (some ⟨g, 0, none⟩) n cap) n cap first many lim cells) (hne : g ≠ q) (hf : first < n) (hm : 0 < many) (hx : cells[first]? = some (.int .i64 x)) :
    Calls Try.prog 10 #[.pointer (some ⟨q, 0, none⟩)] w fun e w' => e = .returned (.tuple #[.int .i64 x, .nilIface]) ∧ 
      QI w' q T E (.slice (some ⟨g, 0, none⟩) n cap) n cap ((first + 1) % n) (many - 1) lim (cells.set first (.int .i64 0)) ∧ Chg (fun k => k = q ∨ k = g) w w' := by
  have c0 := h.c0
  have c1 := h.c1
  have c2 := h.c2
  have hcell : w.cell? ⟨g, first, none⟩ = some (.int .i64 x) := by rw [h.own.cellAt first (by omega)]; exact hx
  have hfz : w.frozen? ⟨g, first, none⟩ = false := h.own.frozenAt first
  have HH := Lib.hid h
  clear h
  go_enter Try.func10, Try.ntmps10
  go_wp2_with fail
  refine (has_t q 0 many w c2 (by omega) (by omega)).mono ?_
  rintro e w1 ⟨rfl, rfl⟩
  go_wp2_with fail
  go_quiet (fail)
  obtain ⟨w1, hw1⟩ : ∃ x, x = w.drewN nq := ⟨_, rfl⟩
  rw [← hw1]
  have H1 : QI w1 q T E (.slice (some ⟨g, 0, none⟩) n cap) n cap first many lim cells := HH.out.heap (by rw [hw1]; rfl)
  have hcell1 : w1.cell? ⟨g, first, none⟩ = some (.int .i64 x) := by rw [hw1]; exact hcell
  have hfz1 : w1.frozen? ⟨g, first, none⟩ = false := by rw [hw1]; exact hfz
  have X1 : Chg (fun k => k = q ∨ k = g) w w1 := by rw [hw1]; exact (Chg.refl _ w).drewN nq
  clear c0 c1 c2 hcell hfz hw1
  have c0 := H1.c0
  have c1 := H1.c1
  have HH1 := Lib.hid H1
  clear H1
  go_wp2_with fail
  go_still_tail 10, (by kernel_rfl)
  change wpList _ _ _ _ _ w1.drew
  obtain ⟨w2, hw2⟩ : ∃ x, x = w1.drew := ⟨_, rfl⟩
  rw [← hw2]
  have H1 : QI w2 q T E (.slice (some ⟨g, 0, none⟩) n cap) n cap first many lim cells := HH1.out.heap (by rw [hw2]; rfl)
  have hcell2 : w2.cell? ⟨g, first, none⟩ = some (.int .i64 x) := by rw [hw2]; exact hcell1
  have hfz2 : w2.frozen? ⟨g, first, none⟩ = false := by rw [hw2]; exact hfz1
  have X2 : Chg (fun k => k = q ∨ k = g) w w2 := by rw [hw2]; exact X1.drew
  clear c0 c1 hcell1 hfz1 hw2
  have HH2 := Lib.hid H1
  clear H1
  go_wp2_with fail
  obtain ⟨w3, hw3⟩ : ∃ x, x = w2.setCell ⟨g, first, none⟩ (.int .i64 0) := ⟨_, rfl⟩
  rw [← hw3]
  have H1 : QI w3 q T E (.slice (some ⟨g, 0, none⟩) n cap) n cap first many lim (cells.set first (.int .i64 0)) := by rw [hw3]; exact HH2.out.setRing hne first _
  have X3 : Chg (fun k => k = q ∨ k = g) w w3 := by rw [hw3]; exact X2.setCell _ _ (.inr rfl)
  clear hcell2 hfz2 hw3
  have A3 := at_ok q _ cap 1 first n w3 (by have := H1.n_le; have := H1.lim_le; omega) (by omega) (by omega) H1.c0 H1.c1
  have HH3 := Lib.hid H1
  clear H1
  refine A3.mono ?_
  rintro e w4 ⟨rfl, hb⟩
  have H1 := HH3.out.below hb
  have X4 : Chg (fun k => k = q ∨ k = g) w w4 := X3.trans (Chg.ofBelow hb _)
  clear hb A3
  have c1 := H1.c1
  have z1 := H1.fz 1
  have c2 := H1.c2
  have z2 := H1.fz 2
  have b4 : many ≤ 4096 := by have := H1.many_le; have := H1.n_le; have := H1.lim_le; omega
  have HH4 := Lib.hid H1
  clear H1
  obtain ⟨f', hf'⟩ : ∃ f', f' = (first + 1) % n := ⟨_, rfl⟩
  rw [← hf']
  have hfl : f' < n := by rw [hf']; exact Nat.mod_lt _ (by omega)
  have HF := Lib.hid hf'
  clear hf'
  go_wp2_with fail
  go_ret2
  refine ⟨rfl, ?_, ?_⟩
  · have e1 : ((many : Int) - 1) = ((many - 1 : Nat) : Int) := by omega
    rw [e1, ← HF.out]
    exact (HH4.out.set1 f' hfl).set2 (many - 1) (by have := HH4.out.many_le; omega)
  · exact (X4.setCell _ _ (.inl rfl)).setCell _ _ (.inl rfl)

theorem pop_none (q : Nat) (many : Int) (w : World) (c2 : w.cell? ⟨q, 2, none⟩ = some (.int .i64 many)) (hm : many ≤ 0) :
    Calls Try.prog 10 #[.pointer (some ⟨q, 0, none⟩)] w fun e w' => e = .returned (.tuple #[.int .i64 0, .iface 94 (.int .i64 50)]) ∧ w = w' := by
  go_enter Try.func10, Try.ntmps10
  go_wp2_with fail
  refine (has_hi q 0 many w c2 (by omega) (by omega)).mono ?_
  rintro e w1 ⟨rfl, rfl⟩
  go_wp2_with fail
  go_ret2
  exact ⟨rfl, rfl⟩

theorem pop_nil (w : World) :
    Calls Try.prog 10 #[.pointer none] w fun e w' => e = .returned (.tuple #[.int .i64 0, .iface 94 (.int .i64 50)]) ∧ w = w' := by
  go_enter Try.func10, Try.ntmps10
  go_wp2_with fail
  refine (has_nil 0 w).mono ?_
  rintro e w1 ⟨rfl, rfl⟩
  go_wp2_with fail
  go_ret2
  exact ⟨rfl, rfl⟩

end Go.Proofs.Ytahaclglkbgpcaa
