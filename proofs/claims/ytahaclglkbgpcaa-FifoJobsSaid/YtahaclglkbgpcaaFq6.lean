/- Queues of ints: the first Push. -/
import Derived.Test.YtahaclglkbgpcaaFq5
set_option linter.unusedVariables false
set_option linter.unusedSimpArgs false
namespace Go.Proofs.Ytahaclglkbgpcaa
open Go.RowKit
set_option maxRecDepth 100000

theorem push_first (q : Nat) (T : TypeId) (cap lim : Nat) (cells : List Value) (w : World) (x : Int) (h : QI w q T 3 (.slice none 0 0) 0 cap 0 0 lim cells) (hm : 0 < lim) :
    Calls Try.prog 11 #[.pointer (some ⟨q, 0, none⟩), .int .i64 x] w fun e w' => e = .returned .nilIface ∧ ∃ g n' c', 0 < n' ∧
      QI w' q T 3 (.slice (some ⟨g, 0, none⟩) n' n') n' n' 0 1 lim c' ∧ (∀ u ∈ c', ∃ z, u = .int .i64 z) ∧ lst c' n' 0 1 = [.int .i64 x] ∧ w.heap.size ≤ g ∧ Chg (fun k => k = q) w w' := by
  have c0 := h.c0
  have c2 := h.c2
  have c3 := h.c3
  have L := room_ok q 0 lim w h.c2 h.c3 (by omega) h.lim_le
  have b4 : lim ≤ 4096 := h.lim_le
  have HH := Lib.hid h
  clear h
  have t0 : (((lim - 0 : Nat) : Int) == 0) = false := by simp; omega
  go_enter Try.func11, Try.ntmps11
  go_wp2_with fail
  refine L.mono ?_
  rintro e w1 ⟨rfl, rfl⟩
  go_wp2_with fail
  go_quiet (fail)
  obtain ⟨w1, hw1⟩ : ∃ x, x = w.drewN nq := ⟨_, rfl⟩
  rw [← hw1]
  have H7 : QI w1 q T 3 (.slice none 0 0) 0 cap 0 0 lim cells := HH.out.heap (by rw [hw1]; rfl)
  have X1 : Chg (fun k => k = q) w w1 := by rw [hw1]; exact (Chg.refl _ w).drewN nq
  clear c0 c2 c3 hw1
  have c0 := H7.c0
  have c2 := H7.c2
  have c3 := H7.c3
  have HH1 := Lib.hid H7
  clear H7
  go_wp2_with fail
  go_still_tail 11, (by kernel_rfl)
  change wpList _ _ _ _ _ w1.drew
  have W1 : IntKind.i64.wrap 0 = 0 := IntWalk.i64_in _ (by omega)
  have W2 : IntKind.i64.wrap ((0 : Int) + 1) = 1 := IntWalk.i64_in _ (by omega)
  obtain ⟨n', hn', l1, l2⟩ : ∃ n' : Nat, (if (1 : Int) < (lim : Int) then (1 : Int) else (lim : Int)) = (n' : Int) ∧ 0 < n' ∧ n' ≤ lim := by
    by_cases h : 1 < lim
    · exact ⟨1, by rw [if_pos (by omega)]; rfl, by omega, by omega⟩
    · exact ⟨lim, by rw [if_neg (by omega)], by omega, by omega⟩
  simp only [W1, W2, hn']
  clear W1 W2 hn'
  obtain ⟨i0, hi, hz0, hz1, hz2⟩ := info_parts info_int
  refine wpList_make_full _ rfl (.tmp 30) (.tmp 30) 32 rfl 0 3 i0 (.int .i64 0) 1 Try.underlying32 hi hz0 hz1 .i64 .i64 n' n' n' rfl rfl rfl rfl (by rw [hz2]; omega) (by unfold maxLen; omega) (Nat.zero_le _) ?_
  intro w2 hown2 hgrow2
  have X2 : Chg (fun k => k = q) w w2 := (X1.drew).trans ((Chg.ofGrown hgrow2).mono (by intro k _ h; simp at h))
  have H2 : QI w2 q T 3 (.slice none 0 0) 0 cap 0 0 lim cells := (HH1.out.heap (w' := w1.drew) rfl).chg (S := fun k => False) ((Chg.ofGrown hgrow2).mono (by intro k _ h; simp at h)) (fun h => h) (fun _ _ h => h)
  have L2 := list_none q w2 H2.c2
  have c0 := H2.c0
  have c1 := H2.c1
  have z0 := H2.fz 0
  have z1 := H2.fz 1
  have HH2 := Lib.hid H2
  obtain ⟨g1, hg1⟩ : ∃ g1, g1 = w1.heap.size := ⟨_, rfl⟩
  have hO3 : w2.ownsRow 0 3 1 (.slice (some ⟨g1, 0, none⟩) n' n') n' (madeCells (Value.int .i64 0).cells (n' * 1)).toList := by rw [hg1]; exact hown2
  have hq1 : q < w1.heap.size := HH1.out.lt
  have HO4 := Lib.hid hO3
  clear H2 c2 c3 i0 hi hz0 hz1 hz2 hown2 hgrow2 hO3
  change wpList _ _ _ _ _ _
  rw [show w1.drew.heap.size = g1 from hg1.symm]
  have HE := Lib.hid hg1
  clear hg1
  go_wp2_with fail
  refine L2.mono ?_
  rintro e w3 ⟨rfl, rfl⟩
  go_wp2_with (refine wpList_copy_nothing rfl (.tmp 32) (.tmp 34) 32 32 rfl 3 Try.underlying32 (by kernel_rfl) (some ⟨g1, 0, none⟩) none n' n' 0 0 rfl rfl (Nat.zero_min _) ?_)
  obtain ⟨w5, hw5⟩ : ∃ y, y = (w2.setCell ⟨q, 0, none⟩ (.slice (some ⟨g1, 0, none⟩) n' n')).setCell ⟨q, 1, none⟩ (.int .i64 0) := ⟨_, rfl⟩
  rw [← hw5]
  have hq1' : q < g1 := by rw [HE.out]; exact hq1
  obtain ⟨c5, hc5⟩ : ∃ y, y = (madeCells (Value.int .i64 0).cells (n' * 1)).toList := ⟨_, rfl⟩
  have H5 : QI w5 q T 3 (.slice (some ⟨g1, 0, none⟩) n' n') n' n' 0 0 lim c5 := by
    rw [hw5, hc5]; exact (HH2.out.newRing HO4.out (by omega) (by omega) (by omega) l2).1
  have X5 : Chg (fun k => k = q) w w5 := by rw [hw5]; exact (X2.setCell _ _ rfl).setCell _ _ rfl
  clear hw5 c0 c1 z0 z1
  have c0 := H5.c0
  have c2 := H5.c2
  have hlen := H5.len
  obtain ⟨u, hcell⟩ : ∃ u, w5.cell? ⟨g1, 0, none⟩ = some u := ⟨c5[0]'(by omega), by rw [H5.own.cellAt 0 (by omega)]; simp [hlen, l1]⟩
  have hfz : w5.frozen? ⟨g1, 0, none⟩ = false := H5.own.frozenAt 0
  have A : ∀ W : World, W.heap = w5.heap → Calls Try.prog 46 #[.pointer (some ⟨q, 0, none⟩), .int .i64 0] W fun e w' => e = .returned (.int .i64 0) ∧ ∃ d, w' = W.drewN d := fun W e => by
    have HW := H5.heap e
    have := at_q q _ n' 0 0 n' W (by omega) (by omega) (by omega) HW.c0 HW.c1
    rw [show (0 + 0) % n' = 0 by rw [Nat.zero_add]; exact Nat.mod_eq_of_lt l1] at this
    exact this
  have HA := Lib.hid A
  have HH5 := Lib.hid H5
  have HC5 := Lib.hid hc5
  clear A H5 hlen hc5
  go_wp2_with fail
  go_region_law (first
    | (go_simp; go_at_call 46; refine (HA.out (World.drew w5) rfl).mono ?_; rintro e w' ⟨rfl, d, rfl⟩))
  all_goals
    obtain ⟨w6, hw6⟩ : ∃ y, y = (w5.drewN (1 + d)).setCell ⟨g1, 0, none⟩ (.int .i64 x) := ⟨_, rfl⟩
    rw [← hw6]
    have H6 : QI w6 q T 3 (.slice (some ⟨g1, 0, none⟩) n' n') n' n' 0 0 lim (c5.set 0 (.int .i64 x)) := by
      rw [hw6]; exact (QI.heap HH5.out (w' := w5.drewN (1 + d)) rfl).setRing (by omega) 0 _
    have X6 : Chg (fun k => k = q) w w6 := by
      have s1 := X1.size
      have s2 := HE.out
      rw [hw6]
      exact ⟨X5.os, X5.tape, X5.output, by simpa using X5.size, fun k hk hn => by
        rw [heap_setCell_other _ _ _ _ (show k ≠ g1 by omega)]
        exact X5.block k hk hn⟩
    clear c0 c2 hcell hfz hw6
    have c2 := H6.c2
    have z2 := H6.fz 2
    have HH6 := Lib.hid H6
    clear H6
    go_wp2
    go_ret
    refine ⟨rfl, g1, n', _, l1, HH6.out.set2 1 (by omega), ?_, ?_, ?_, X6.setCell _ _ rfl⟩
    · intro u hu
      rcases List.mem_or_eq_of_mem_set hu with h | h
      · rw [HC5.out] at h
        rw [show (Value.int .i64 0).cells = #[Value.int .i64 0] from rfl, toList_madeCells_one] at h
        exact ⟨0, List.eq_of_mem_replicate h⟩
      · exact ⟨x, h⟩
    · have hl := HH5.out.len
      rw [HC5.out] at hl ⊢
      exact lst_grow (A := []) _ rfl l1 (by simpa using Nat.le_of_eq hl.symm)
    · rw [HE.out]; exact X1.size

end Go.Proofs.Ytahaclglkbgpcaa
