/- Queues of jobs: Push where there is room. -/
import Derived.Test.YtahaclglkbgpcaaJq2
set_option linter.unusedVariables false
set_option linter.unusedSimpArgs false
namespace Go.Proofs.Ytahaclglkbgpcaa
open Go.RowKit
open Go.Proofs.YtahaclglkbgpcaaW.PrintWords (Kd Drawn0 Kept rd rdOf)
open Go.Proofs.Ytahaclglkbgpcaa.PFifoJobs
set_option maxRecDepth 100000

theorem box_cells {W : World} {b : Nat} {x : Jb} (h : W.heap[b]? = some (.cells #[.int .i64 x.f0, .int .i64 x.f1, .int .i64 x.f2, .int .i64 x.f3] 48 (0, 0))) :
    W.cell? ⟨b, 0, none⟩ = some (.int .i64 x.f0) ∧ W.cell? ⟨b, 1, none⟩ = some (.int .i64 x.f1) ∧ W.cell? ⟨b, 2, none⟩ = some (.int .i64 x.f2) ∧ W.cell? ⟨b, 3, none⟩ = some (.int .i64 x.f3) := by
  simp [World.cell?, h]

set_option maxHeartbeats 1000000 in
theorem jpush_room (q g n cap first many lim : Nat) (rs : List Jb) (x : Jb) (w : World) (h : JQ w q g n cap first many lim rs) (hm : many < n) :
    Calls Try.prog 23 #[.pointer (some ⟨q, 0, none⟩), .agg #[.int .i64 x.f0, .int .i64 x.f1, .int .i64 x.f2, .int .i64 x.f3]] w fun e w' => e = .returned .nilIface ∧ JQ w' q g n cap first (many + 1) lim (rs.set ((first + many) % n) x) ∧ Chg (fun k => k = q ∨ k = g) w w' := by
  have hq0 := h.lt
  have hgw := h.ltg
  obtain ⟨bq, hbq⟩ : ∃ b, b = w.heap.size := ⟨_, rfl⟩
  obtain ⟨wa, hwa⟩ : ∃ y, y = w.alloc (.cells #[.int .i64 x.f0, .int .i64 x.f1, .int .i64 x.f2, .int .i64 x.f3] 48) := ⟨_, rfl⟩
  have hbx : wa.heap[bq]? = some (.cells #[.int .i64 x.f0, .int .i64 x.f1, .int .i64 x.f2, .int .i64 x.f3] 48 (0, 0)) := by rw [hwa, hbq]; exact heap_alloc_new w _
  have xa : Chg (fun _ => False) w wa := by rw [hwa]; exact (Chg.refl _ w).alloc _
  have hsa : wa.heap.size = w.heap.size + 1 := by rw [hwa]; simp
  replace h := h.chgA xa
  have HBX := Lib.hid hbx
  have XA := Lib.hid xa
  have HWA := Lib.hid hwa
  have HBQ := Lib.hid hbq
  clear hbx xa hwa hbq
  have c0 := h.c0
  have c2 := h.c2
  have L := jroom_ok q many lim wa h.c2 h.c3 (by have := h.n_le; omega) h.lim_le
  have b4 : lim ≤ 4096 := h.lim_le
  have b3 : n ≤ lim := h.n_le
  have HH := Lib.hid h
  clear h
  have t0 : ((((lim - many : Nat) : Int)) == 0) = false := by simp; omega
  have t1 : ((many : Int) == (n : Int)) = false := by simp; omega
  go_enter Try.func23, Try.ntmps23
  go_wp2_with fail
  rw [← HWA.out, ← HBQ.out]
  refine L.mono ?_
  rintro e w1 ⟨rfl, rfl⟩
  go_wp2_with fail
  go_quiet (fail)
  obtain ⟨w1, hw1⟩ : ∃ x, x = wa.drewN nq := ⟨_, rfl⟩
  rw [← hw1]
  have H1 := HH.out.heap (w' := w1) (by rw [hw1]; rfl)
  have X1 : Chg (fun k => k = q ∨ k = g) wa w1 := by rw [hw1]; exact (Chg.refl _ wa).drewN nq
  clear c0 c2 hw1
  have c0 := H1.c0
  have c2 := H1.c2
  obtain ⟨j, hj⟩ : ∃ j, j = (first + many) % n := ⟨_, rfl⟩
  have hjn : j < n := by rw [hj]; exact Nat.mod_lt _ (by omega)
  obtain ⟨y, hy, hd⟩ := H1.at many
  rw [← hj] at hy
  obtain ⟨x0, x1, x2, x3⟩ := H1.cells hy
  obtain ⟨f0, f1, f2, f3⟩ := H1.frozen hy
  have A := H1.at_any many (by omega)
  rw [← hj] at A
  have HA := Lib.hid A
  have HJ := Lib.hid hj
  have HH1 := Lib.hid H1
  obtain ⟨v0, v1, v2, v3⟩ := box_cells (X1.heap HBX.out (by show ¬ (bq = q ∨ bq = g); have := HBQ.out; have := HH.out.ltg; have hg := hgw; omega))
  clear A hj hd hy H1
  go_wp2_with fail
  go_region_law (first
    | (go_simp; go_at_call 56; refine (HA.out (World.drew w1) rfl).mono ?_; rintro e w' ⟨rfl, d, rfl⟩))
  all_goals
    obtain ⟨w2, hw2⟩ : ∃ y, y = ((((w1.drewN (1 + d)).setCell ⟨g, j * 4, none⟩ (.int .i64 x.f0)).setCell ⟨g, j * 4 + 1, none⟩ (.int .i64 x.f1)).setCell ⟨g, j * 4 + 2, none⟩ (.int .i64 x.f2)).setCell ⟨g, j * 4 + 3, none⟩ (.int .i64 x.f3) := ⟨_, rfl⟩
    rw [← hw2]
    have H2 : JQ w2 q g n cap first many lim (rs.set j x) := by
      rw [hw2]; exact (HH1.out.heap (w' := w1.drewN (1 + d)) rfl).set hjn x
    have X2 : Chg (fun k => k = q ∨ k = g) wa w2 := by rw [hw2]; exact ((((X1.drewN _).setCell _ _ (.inr rfl)).setCell _ _ (.inr rfl)).setCell _ _ (.inr rfl)).setCell _ _ (.inr rfl)
    clear c0 c2 x0 x1 x2 x3 f0 f1 f2 f3 hw2
    have c2 := H2.c2
    have z2 := H2.fz 2
    have HH2 := Lib.hid H2
    clear H2
    go_wp2
    go_ret
    refine ⟨rfl, ?_, (XA.out.mono (fun _ _ f => f.elim)).trans (X2.setCell _ _ (.inl rfl))⟩
    rw [← HJ.out]
    exact HH2.out.set2 (many + 1) (by omega)

end Go.Proofs.Ytahaclglkbgpcaa
