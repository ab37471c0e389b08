/- A book of one entry: way, Charge. -/
import Derived.Test.YtahaclglkbgpcaaDoorLg4
set_option linter.unusedVariables false
set_option linter.unusedSimpArgs false
namespace Go.Proofs.YtahaclglkbgpcaaDoor
open Go.RowKit
set_option maxRecDepth 100000

theorem lway_ok (k b pb : Nat) (g o : Int) (w : World) (h : Bk w k b g o) (hp : w.cell? ⟨pb, 0, none⟩ = some (.int .i64 1)) :
    Calls Tryd.prog 40 #[.pointer (some ⟨k, 0, none⟩), .slice (some ⟨pb, 0, none⟩) 1 1] w fun e w' => e = .returned .nilIface ∧ Below w.heap.size w w' := by
  have HH := Lib.hid h
  have c0 := h.c0
  clear h
  go_enter Tryd.func40, Tryd.ntmps40
  go_wp2_with fail
  refine wp_loop_rounds 2 ?_
  rw [rounds_succ]
  go_wp2_with fail
  refine (lfind_ok k b g o w HH.out).mono ?_
  rintro e w1 ⟨rfl, hb⟩
  have c1 := keep hb c0
  have hk1 : k < w1.heap.size := by have := (HH.out.below hb).blk; exact (Array.getElem?_eq_some_iff.1 this).1
  have HB := Lib.hid hb
  clear hb c0
  go_wp2_with fail
  go_quiet (fail)
  go_wp2_with fail
  rw [rounds_succ]
  go_wp2
  go_ret
  exact ⟨rfl, below_drewN' (HB.out.alloc HB.out.size _) _⟩

theorem upd1n {W : World} {b : Nat} {v : Value} (v' : Value) {n : Nat} (hb : W.heap[b]? = some (.map #[{ key := .int .i64 1, val := v, born := n }] (n + 1))) : Sem.run Tryd.prog (Instr.mapUpdate 62 (.map (some b)) (.int .i64 1) v') W = .ok () (put1 W b v' n) := by
  simp [Instr.mapUpdate, run_underlying Tryd.underlying62, MapKept.run_getObj_map hb, ck1, MapKept.run_findKey Tryd.underlying33 (fn1 v n), MapKept.run_setObj_map _ hb, Result.andThen, Instr.keyThatStays, Instr.sameBits, put1]
theorem field1 (g o : Int) (w : World) : Sem.run Tryd.prog (Instr.field 61 (ev g o) 1) w = .ok (.agg #[.int .i64 g, .int .i64 o, .int .i64 0, .int .i64 0, .int .i64 0, .int .i64 0]) w := by kernel_rfl
theorem field10 (g o : Int) (w : World) : Sem.run Tryd.prog (Instr.field 23 (.agg #[.int .i64 g, .int .i64 o, .int .i64 0, .int .i64 0, .int .i64 0, .int .i64 0]) 0) w = .ok (.int .i64 g) w := by kernel_rfl
attribute [local go_sem high] field1 field10

set_option maxHeartbeats 1000000 in
theorem lcharge_ok (k b pb : Nat) (w : World) (h : Bk w k b 0 0) (hp : w.cell? ⟨pb, 0, none⟩ = some (.int .i64 1)) (hbk : b < k) :
    Calls Tryd.prog 23 #[.pointer (some ⟨k, 0, none⟩), .slice (some ⟨pb, 0, none⟩) 1 1, .bool false] w fun e w' => e = .returned .nilIface ∧ Bk w' k b 1 1 ∧ Chg (fun j => j = b) w w' := by
  have HH := Lib.hid h
  have HP := Lib.hid hp
  clear h hp
  go_enter Tryd.func23, Tryd.ntmps23
  go_wp2_with fail
  refine (lway_ok k b pb 0 0 w HH.out HP.out).mono ?_
  rintro e w1 ⟨rfl, hb⟩
  have H1 := Lib.hid (HH.out.below hb)
  have HB := Lib.hid hb
  have p1 := keep hb HP.out
  have c0 := H1.out.c0
  have c1 := H1.out.c1
  have hl : Sem.run Tryd.prog (Instr.lookup 62 (.map (some b)) (.int .i64 1) false) w1.drew = .ok (ev 0 0) w1.drew := look1 (H1.out.map.below (Below.drew (Below.refl _ _)))
  clear hb
  go_wp2_with fail
  go_region_with (fail)
  all_goals
    obtain ⟨w2, hw2⟩ : ∃ y, y = w1.drew := ⟨_, rfl⟩
    rw [← hw2]
    have hbd : Below w1.heap.size w1 w2 := by rw [hw2]; exact Below.drew (Below.refl _ _)
    have H2 := Lib.hid (H1.out.below hbd)
    have HB2 := Lib.hid (below_call HB.out (Nat.le_refl _) hbd)
    have p2 := keep hbd p1
    clear hl p1 c0 c1 hw2 hbd
    have c0 := H2.out.c0
    have c1 := H2.out.c1
    have hk2 : k < w2.heap.size := (Array.getElem?_eq_some_iff.1 H2.out.blk).1
    have hp2 : pb < w2.heap.size := World.block_lt_of_cell? w2 ⟨pb, _, none⟩ p2
    have hl : Sem.run Tryd.prog (Instr.lookup 62 (.map (some b)) (.int .i64 1) false) w2 = .ok (ev 0 0) w2 := look1 H2.out.map
    go_wp2_with fail
    refine wp_loop_rounds 2 ?_
    rw [rounds_succ]
    go_wp2_with fail
    obtain ⟨bx, hbx⟩ : ∃ y, y = w2.heap.size := ⟨_, rfl⟩
    obtain ⟨w3, hw3⟩ : ∃ y, y = w2.alloc (.cells #[.int .i64 0, .int .i64 1, .int .i64 1, .int .i64 0, .int .i64 0, .int .i64 0, .int .i64 0, .int .i64 0, .int .i64 0, .int .i64 0, .int .i64 0, .int .i64 0, .int .i64 0] 61) := ⟨_, rfl⟩
    rw [← hw3, ← hbx]
    have hba : Below w2.heap.size w2 w3 := by rw [hw3]; exact (Below.refl _ _).alloc (Nat.le_refl _) _
    have H3 := Lib.hid (H2.out.below hba)
    have HB3 := Lib.hid (below_call HB2.out (Nat.le_refl _) hba)
    have b0 : w3.cell? ⟨bx, 0, none⟩ = some (.int .i64 0) := by rw [hw3, hbx]; simp
    have b1 : w3.cell? ⟨bx, 1, none⟩ = some (.int .i64 1) := by rw [hw3, hbx]; simp
    have b2 : w3.cell? ⟨bx, 2, none⟩ = some (.int .i64 1) := by rw [hw3, hbx]; simp
    have b3 : w3.cell? ⟨bx, 3, none⟩ = some (.int .i64 0) := by rw [hw3, hbx]; simp
    have b4 : w3.cell? ⟨bx, 4, none⟩ = some (.int .i64 0) := by rw [hw3, hbx]; simp
    have b5 : w3.cell? ⟨bx, 5, none⟩ = some (.int .i64 0) := by rw [hw3, hbx]; simp
    have b6 : w3.cell? ⟨bx, 6, none⟩ = some (.int .i64 0) := by rw [hw3, hbx]; simp
    have b7 : w3.cell? ⟨bx, 7, none⟩ = some (.int .i64 0) := by rw [hw3, hbx]; simp
    have b8 : w3.cell? ⟨bx, 8, none⟩ = some (.int .i64 0) := by rw [hw3, hbx]; simp
    have b9 : w3.cell? ⟨bx, 9, none⟩ = some (.int .i64 0) := by rw [hw3, hbx]; simp
    have b10 : w3.cell? ⟨bx, 10, none⟩ = some (.int .i64 0) := by rw [hw3, hbx]; simp
    have b11 : w3.cell? ⟨bx, 11, none⟩ = some (.int .i64 0) := by rw [hw3, hbx]; simp
    have b12 : w3.cell? ⟨bx, 12, none⟩ = some (.int .i64 0) := by rw [hw3, hbx]; simp
    have c3 := H3.out.c1
    obtain ⟨nn, hnn⟩ := H3.out.map
    have hup := upd1n (W := w3.drew) (ev 1 1) hnn
    have HNN := Lib.hid hnn
    clear c0 c1 hl p2 hba hw3 hbx hnn
    go_region_with (fail)
    all_goals
      obtain ⟨w4, hw4⟩ : ∃ y, y = put1 w3.drew b (ev 1 1) nn := ⟨_, rfl⟩
      rw [← hw4]
      have hc4 : Chg (fun j => j = b) w w4 := by rw [hw4]; exact ((Chg.ofBelow HB3.out _).trans (Chg.ofBelow (Below.drew (Below.refl _ _)) _)).trans (put1_chg _ _ _ _)
      have H4 : Bk w4 k b 1 1 := by
        rw [hw4]
        refine ⟨?_, put1_at _ _ HNN.out⟩
        have e := (put1_chg w3.drew b (ev 1 1) nn).heap (k := k) H3.out.blk (by show ¬ k = b; omega)
        exact e
      have HC4 := Lib.hid hc4
      have HH4 := Lib.hid H4
      clear hw4 hc4 H4
      go_wp2_with fail
      rw [rounds_succ]
      go_wp2
      go_ret
      exact ⟨rfl, HH4.out, HC4.out⟩
end Go.Proofs.YtahaclglkbgpcaaDoor
