/- Queues of strings: Push. -/
import Derived.Test.YtahaclglkbgpcaaFqS1
set_option linter.unusedVariables false
set_option linter.unusedSimpArgs false
namespace Go.Proofs.Ytahaclglkbgpcaa
open Go.RowKit
set_option maxRecDepth 100000
namespace St

theorem push_room (q g : Nat) (T : TypeId) (n cap first many lim : Nat) (cells : List Value) (w : World) (x : ByteArray) (h : QI w q T 9 (.slice (some ⟨g, 0, none⟩) n cap) n cap first many lim cells) (hf : first < n) (hm : many < n) (hne : g ≠ q) :
    Calls Try.prog 48 #[.pointer (some ⟨q, 0, none⟩), .string x] w fun e w' => e = .returned .nilIface ∧ QI w' q T 9 (.slice (some ⟨g, 0, none⟩) n cap) n cap first (many + 1) lim (cells.set ((first + many) % n) (.string x)) ∧ Chg (fun k => k = q ∨ k = g) w w' := by
  have c0 := h.c0
  have c2 := h.c2
  have L := room_ok q many lim w h.c2 h.c3 (by have := h.n_le; omega) h.lim_le
  have b4 : lim ≤ 4096 := h.lim_le
  have b3 : n ≤ lim := h.n_le
  have HH := Lib.hid h
  clear h
  have t0 : ((((lim - many : Nat) : Int)) == 0) = false := by simp; omega
  have t1 : ((many : Int) == (n : Int)) = false := by simp; omega
  go_enter Try.func48, Try.ntmps48
  go_wp2_with fail
  refine L.mono ?_
  rintro e w1 ⟨rfl, rfl⟩
  go_wp2_with fail
  go_quiet (fail)
  obtain ⟨w1, hw1⟩ : ∃ x, x = w.drewN nq := ⟨_, rfl⟩
  rw [← hw1]
  have H1 : QI w1 q T 9 (.slice (some ⟨g, 0, none⟩) n cap) n cap first many lim cells := HH.out.heap (by rw [hw1]; rfl)
  have X1 : Chg (fun k => k = q ∨ k = g) w w1 := by rw [hw1]; exact (Chg.refl _ w).drewN nq
  clear c0 c2 hw1
  have c0 := H1.c0
  have c2 := H1.c2
  have HH1 := Lib.hid H1
  clear H1
  obtain ⟨j, hj⟩ : ∃ j, j = (first + many) % n := ⟨_, rfl⟩
  have hjn : j < n := by rw [hj]; exact Nat.mod_lt _ (by omega)
  have hlen := HH1.out.len
  have hcell : ∃ u, w1.cell? ⟨g, j, none⟩ = some u := ⟨cells[j]'(by omega), by rw [HH1.out.own.cellAt j (by omega)]; simp [hlen, hjn]⟩
  obtain ⟨u, hcell⟩ := hcell
  have hfz : w1.frozen? ⟨g, j, none⟩ = false := HH1.out.own.frozenAt j
  have A : ∀ W : World, W.heap = w1.heap → Calls Try.prog 71 #[.pointer (some ⟨q, 0, none⟩), .int .i64 many] W fun e w' => e = .returned (.int .i64 (j : Int)) ∧ ∃ d, w' = W.drewN d := fun W e => by
    have HW := HH1.out.heap e
    have := at_q q _ cap many first n W (by omega) hf (by omega) HW.c0 HW.c1
    rw [← hj] at this
    exact this
  have HA := Lib.hid A
  clear A
  have HJ := Lib.hid hj
  clear hj
  clear hlen
  go_wp2_with fail
  go_region_law (first
    | (go_simp; go_at_call 71; refine (HA.out (World.drew w1) rfl).mono ?_; rintro e w' ⟨rfl, d, rfl⟩))
  all_goals
    obtain ⟨w2, hw2⟩ : ∃ y, y = (w1.drewN (1 + d)).setCell ⟨g, j, none⟩ (.string x) := ⟨_, rfl⟩
    rw [← hw2]
    have H2 : QI w2 q T 9 (.slice (some ⟨g, 0, none⟩) n cap) n cap first many lim (cells.set j (.string x)) := by
      rw [hw2]; exact (QI.heap HH1.out (w' := w1.drewN (1 + d)) rfl).setRing hne j _
    have X2 : Chg (fun k => k = q ∨ k = g) w w2 := by rw [hw2]; exact (X1.drewN _).setCell _ _ (.inr rfl)
    clear c0 c2 hcell hfz hw2
    have c2 := H2.c2
    have z2 := H2.fz 2
    have HH2 := Lib.hid H2
    clear H2
    go_wp2
    go_ret
    refine ⟨rfl, ?_, X2.setCell _ _ (.inl rfl)⟩
    rw [← HJ.out]
    exact HH2.out.set2 (many + 1) (by omega)

theorem push_grow (q : Nat) (T : TypeId) (ring : Value) (n cap first lim : Nat) (cells : List Value) (w : World) (x : ByteArray) (h : QI w q T 9 ring n cap first n lim cells) (hm : n < lim) (hn0 : 0 < n) (h1 : ∀ u ∈ cells, ∃ z, u = .string z) :
    Calls Try.prog 48 #[.pointer (some ⟨q, 0, none⟩), .string x] w fun e w' => e = .returned .nilIface ∧ ∃ g n' c', n < n' ∧
      QI w' q T 9 (.slice (some ⟨g, 0, none⟩) n' n') n' n' 0 (n + 1) lim c' ∧ (∀ u ∈ c', ∃ z, u = .string z) ∧ lst c' n' 0 (n + 1) = lst cells n first n ++ [.string x] ∧ w.heap.size ≤ g ∧ Chg (fun k => k = q) w w' := by
  have c0 := h.c0
  have c2 := h.c2
  have c3 := h.c3
  have L := room_ok q n lim w h.c2 h.c3 (by omega) h.lim_le
  have b4 : lim ≤ 4096 := h.lim_le
  obtain ⟨ra, cp, rfl⟩ : ∃ ra cp, ring = .slice ra n cp := by
    rcases h.form with ⟨rfl, rfl, rfl⟩ | ⟨g, rfl, _⟩
    · exact ⟨none, 0, rfl⟩
    · exact ⟨_, cap, rfl⟩
  have HH := Lib.hid h
  clear h
  have H1 := Lib.hid h1
  clear h1
  have t0 : ((((lim - n : Nat) : Int)) == 0) = false := by simp; omega
  go_enter Try.func48, Try.ntmps48
  go_wp2_with fail
  refine L.mono ?_
  rintro e w1 ⟨rfl, rfl⟩
  go_wp2_with fail
  go_quiet (fail)
  obtain ⟨w1, hw1⟩ : ∃ x, x = w.drewN nq := ⟨_, rfl⟩
  rw [← hw1]
  have H7 : QI w1 q T 9 (.slice ra n cp) n cap first n lim cells := HH.out.heap (by rw [hw1]; rfl)
  have X1 : Chg (fun k => k = q) w w1 := by rw [hw1]; exact (Chg.refl _ w).drewN nq
  clear c0 c2 c3 hw1
  have c0 := H7.c0
  have c2 := H7.c2
  have c3 := H7.c3
  have HH1 := Lib.hid H7
  clear H7
  go_wp2_with fail
  go_still_tail 11, (by kernel_rfl)
  change wpList _ _ _ _ _ w1.drew
  have W1 : IntKind.i64.wrap (2 * (n : Int)) = 2 * n := IntWalk.i64_in _ (by omega)
  have W2 : IntKind.i64.wrap (2 * (n : Int) + 1) = 2 * n + 1 := IntWalk.i64_in _ (by omega)
  obtain ⟨n', hn', l1, l2⟩ : ∃ n' : Nat, (if 2 * (n : Int) + 1 < (lim : Int) then 2 * (n : Int) + 1 else (lim : Int)) = (n' : Int) ∧ n < n' ∧ n' ≤ lim := by
    by_cases h : 2 * n + 1 < lim
    · exact ⟨2 * n + 1, by rw [if_pos (by omega)]; omega, by omega, by omega⟩
    · exact ⟨lim, by rw [if_neg (by omega)], by omega, by omega⟩
  simp only [W1, W2, hn']
  clear W1 W2 hn'
  obtain ⟨i0, hi, hz0, hz1, hz2⟩ := info_parts info_str
  refine wpList_make_full _ rfl (.tmp 30) (.tmp 30) 129 rfl 0 9 i0 (.string ⟨#[]⟩) 1 Try.underlying129 hi hz0 hz1 .i64 .i64 n' n' n' rfl rfl rfl rfl (by rw [hz2]; omega) (by unfold maxLen; omega) (Nat.zero_le _) ?_
  intro w2 hown2 hgrow2
  have X2 : Chg (fun k => k = q) w w2 := (X1.drew).trans ((Chg.ofGrown hgrow2).mono (by intro k _ h; simp at h))
  have H2 : QI w2 q T 9 (.slice ra n cp) n cap first n lim cells := (HH1.out.heap (w' := w1.drew) rfl).chg (S := fun k => False) ((Chg.ofGrown hgrow2).mono (by intro k _ h; simp at h)) (fun h => h) (fun _ _ h => h)
  have L2 := list_ok q T _ n cap first n lim cells w2 H2 H1.out
  have HH2 := Lib.hid H2
  clear H2 c0 c2 c3 i0 hi hz0 hz1 hz2
  have HO2 := Lib.hid hown2
  clear hown2
  go_wp2_with fail
  refine L2.mono ?_
  rintro e w3 ⟨v, rfl, hown3, hb3⟩
  obtain ⟨g2, cp2, rfl, hge2, hlt2⟩ := hown3.form (by omega)
  obtain ⟨g1, hg1⟩ : ∃ g1, g1 = w1.heap.size := ⟨_, rfl⟩
  have hO3 : w3.ownsRow 0 9 1 (.slice (some ⟨g1, 0, none⟩) n' n') n' (madeCells (Value.string ⟨#[]⟩).cells (n' * 1)).toList := by
    have := HO2.out.kept (w' := w3) (row := none) ⟨hb3.os, hb3.tape, hb3.output, hb3.size, fun k hk _ => hb3.block k hk⟩ (.inr (by simp [Value.ownBlock]))
    rw [hg1]; exact this
  have hlc : (lst cells n first n).length = n := lst_length _ _ _ _
  obtain ⟨cur, hg3, hcs, hcur, hcopy⟩ := owns_copied (cs := lst cells n first n) hO3
  have hq1 : q < w1.heap.size := HH1.out.lt
  have hQ3 := HH2.out.below hb3
  have X3 := X2.trans (Chg.ofBelow hb3 _)
  have HE := Lib.hid hg1
  have hsrc : ∀ j u, (lst cells n first n)[j]? = some u → w3.cell? ((⟨g2, 0, none⟩ : Addr).add j) = some u := hown3.cells rfl
  have hone : ∀ u ∈ lst cells n first n, u.oneCell' = true := by
    intro u hu
    simp only [lst, List.mem_map, List.mem_range] at hu
    obtain ⟨j, hj, rfl⟩ := hu
    have hl := HH1.out.len
    have : (first + j) % n < n := Nat.mod_lt _ (by omega)
    obtain ⟨z, hz⟩ := H1.out (cells.getD ((first + j) % n) (.int .i64 0)) (by simp [List.getD, List.getElem?_eq_getElem, hl, this])
    rw [hz]; rfl
  have HS := Lib.hid hsrc
  have H1C := Lib.hid hone
  have hown4 := hcopy (by omega)
  obtain ⟨w4, hw4⟩ : ∃ y, y = w3.setRow g1 (cur.toList.take 0 ++ (lst cells n first n ++ cur.toList.drop (0 + (lst cells n first n).length))).toArray := ⟨_, rfl⟩
  rw [← hw4] at hown4
  have X4 : Chg (fun k => k = q) w w4 := ⟨by rw [hw4]; exact X3.os, by rw [hw4]; exact X3.tape, by rw [hw4]; exact X3.output, by rw [hw4]; simpa using X3.size, fun k hk hn => by
    have := X1.size
    rw [hw4, setRow_other w3 g1 k _ (by omega)]
    exact X3.block k hk hn⟩
  have hQ4 : QI w4 q T 9 (.slice ra n cp) n cap first n lim cells := by
    refine hQ3.chg (S := fun k => k = g1) ⟨by rw [hw4]; rfl, by rw [hw4]; rfl, by rw [hw4]; rfl, by rw [hw4]; simp, fun k hk hn => by rw [hw4, setRow_other _ _ _ _ hn]⟩ (fun e => by have e' : q = g1 := e; omega) ?_
    intro k hk e
    have e' : k = g1 := e
    have := HH1.out.own.lt k hk
    omega
  have c0 := hQ4.c0
  have c1 := hQ4.c1
  have z0 := hQ4.fz 0
  have z1 := hQ4.fz 1
  have HW4 := Lib.hid hw4
  have HO4 := Lib.hid hown4
  have HQ4 := Lib.hid hQ4
  clear hw4 hown4 hQ4
  have HO3 := Lib.hid hown3
  have HQ3 := Lib.hid hQ3
  clear hsrc hone hcopy hown3 hQ3 hO3 HH2 HO2 hb3
  rw [← hg1]
  clear hg1
  go_wp2_with (refine wpList_copy_own rfl (.tmp 32) (.tmp 34) 129 129 rfl 9 Try.underlying129 (by kernel_rfl) g1 0 n' n' ⟨g2, 0, none⟩ n cp2 rfl rfl cur 9 hg3 (lst cells n first n) (by rw [hlc]; exact (Nat.min_eq_left (by omega)).symm) HS.out (by omega) H1C.out ?_; rw [← HW4.out])
  obtain ⟨w5, hw5⟩ : ∃ y, y = (w4.setCell ⟨q, 0, none⟩ (.slice (some ⟨g1, 0, none⟩) n' n')).setCell ⟨q, 1, none⟩ (.int .i64 0) := ⟨_, rfl⟩
  rw [← hw5]
  have hq1' : q < g1 := by rw [HE.out]; exact hq1
  obtain ⟨c5, hc5⟩ : ∃ y, y = lst cells n first n ++ List.drop (lst cells n first n).length (madeCells (Value.string ⟨#[]⟩).cells (n' * 1)).toList := ⟨_, rfl⟩
  have H5 : QI w5 q T 9 (.slice (some ⟨g1, 0, none⟩) n' n') n' n' 0 n lim c5 := by
    rw [hw5, hc5]; exact (HQ4.out.newRing HO4.out (by omega) (by omega) (by omega) l2).1
  have X5 : Chg (fun k => k = q) w w5 := by rw [hw5]; exact (X4.setCell _ _ rfl).setCell _ _ rfl
  clear hw5 c0 c1 z0 z1
  have c0 := H5.c0
  have c2 := H5.c2
  have hlen := H5.len
  obtain ⟨u, hcell⟩ : ∃ u, w5.cell? ⟨g1, n, none⟩ = some u := ⟨c5[n]'(by omega), by rw [H5.own.cellAt n (by omega)]; simp [hlen, l1]⟩
  have hfz : w5.frozen? ⟨g1, n, none⟩ = false := H5.own.frozenAt n
  have A : ∀ W : World, W.heap = w5.heap → Calls Try.prog 71 #[.pointer (some ⟨q, 0, none⟩), .int .i64 n] W fun e w' => e = .returned (.int .i64 (n : Int)) ∧ ∃ d, w' = W.drewN d := fun W e => by
    have HW := H5.heap e
    have := at_q q _ n' n 0 n' W (by omega) (by omega) (by omega) HW.c0 HW.c1
    rw [show (0 + n) % n' = n by rw [Nat.zero_add]; exact Nat.mod_eq_of_lt l1] at this
    exact this
  have HA := Lib.hid A
  have HH5 := Lib.hid H5
  have HC5 := Lib.hid hc5
  clear A H5 hlen hc5 hcs hcur hg3
  go_wp2_with fail
  go_region_law (first
    | (go_simp; go_at_call 71; refine (HA.out (World.drew w5) rfl).mono ?_; rintro e w' ⟨rfl, d, rfl⟩))
  all_goals
    obtain ⟨w6, hw6⟩ : ∃ y, y = (w5.drewN (1 + d)).setCell ⟨g1, n, none⟩ (.string x) := ⟨_, rfl⟩
    rw [← hw6]
    have H6 : QI w6 q T 9 (.slice (some ⟨g1, 0, none⟩) n' n') n' n' 0 n lim (c5.set n (.string x)) := by
      rw [hw6]; exact (QI.heap HH5.out (w' := w5.drewN (1 + d)) rfl).setRing (by omega) n _
    have X6 : Chg (fun k => k = q) w w6 := by
      have s1 := X1.size
      have s2 := HE.out
      rw [hw6]
      exact ⟨X5.os, X5.tape, X5.output, by simpa using X5.size, fun k hk hn => by
        rw [heap_setCell_other _ _ _ _ (show k ≠ g1 by omega)]
        exact X5.block k hk hn⟩
    clear c0 c2 hcell hfz hw6
    have c2 := H6.c2
    have z2 := H6.fz 2
    have HH6 := Lib.hid H6
    clear H6
    go_wp2
    go_ret
    refine ⟨rfl, g1, n', _, l1, HH6.out.set2 (n + 1) (by omega), ?_, ?_, ?_, X6.setCell _ _ rfl⟩
    · intro u hu
      rcases List.mem_or_eq_of_mem_set hu with h | h
      · rw [HC5.out] at h
        rcases List.mem_append.1 h with h | h
        · simp only [lst, List.mem_map, List.mem_range] at h
          obtain ⟨j, hj, rfl⟩ := h
          have hl := HH.out.len
          have hjn : (first + j) % n < n := Nat.mod_lt _ (by omega)
          exact H1.out _ (by simp [List.getD, List.getElem?_eq_getElem, hl, hjn])
        · have := List.mem_of_mem_drop h
          rw [show (Value.string ⟨#[]⟩).cells = #[Value.string ⟨#[]⟩] from rfl, toList_madeCells_one] at this
          exact ⟨_, List.eq_of_mem_replicate this⟩
      · exact ⟨x, h⟩
    · have hl := HH5.out.len
      rw [HC5.out] at hl ⊢
      exact lst_grow _ hlc l1 (by omega)
    · rw [HE.out]; exact X1.size

theorem push_first (q : Nat) (T : TypeId) (cap lim : Nat) (cells : List Value) (w : World) (x : ByteArray) (h : QI w q T 9 (.slice none 0 0) 0 cap 0 0 lim cells) (hm : 0 < lim) :
    Calls Try.prog 48 #[.pointer (some ⟨q, 0, none⟩), .string x] w fun e w' => e = .returned .nilIface ∧ ∃ g n' c', 0 < n' ∧
      QI w' q T 9 (.slice (some ⟨g, 0, none⟩) n' n') n' n' 0 1 lim c' ∧ (∀ u ∈ c', ∃ z, u = .string z) ∧ lst c' n' 0 1 = [.string x] ∧ w.heap.size ≤ g ∧ Chg (fun k => k = q) w w' := by
  have c0 := h.c0
  have c2 := h.c2
  have c3 := h.c3
  have L := room_ok q 0 lim w h.c2 h.c3 (by omega) h.lim_le
  have b4 : lim ≤ 4096 := h.lim_le
  have HH := Lib.hid h
  clear h
  have t0 : (((lim - 0 : Nat) : Int) == 0) = false := by simp; omega
  go_enter Try.func48, Try.ntmps48
  go_wp2_with fail
  refine L.mono ?_
  rintro e w1 ⟨rfl, rfl⟩
  go_wp2_with fail
  go_quiet (fail)
  obtain ⟨w1, hw1⟩ : ∃ x, x = w.drewN nq := ⟨_, rfl⟩
  rw [← hw1]
  have H7 : QI w1 q T 9 (.slice none 0 0) 0 cap 0 0 lim cells := HH.out.heap (by rw [hw1]; rfl)
  have X1 : Chg (fun k => k = q) w w1 := by rw [hw1]; exact (Chg.refl _ w).drewN nq
  clear c0 c2 c3 hw1
  have c0 := H7.c0
  have c2 := H7.c2
  have c3 := H7.c3
  have HH1 := Lib.hid H7
  clear H7
  go_wp2_with fail
  go_still_tail 11, (by kernel_rfl)
  change wpList _ _ _ _ _ w1.drew
  have W1 : IntKind.i64.wrap 0 = 0 := IntWalk.i64_in _ (by omega)
  have W2 : IntKind.i64.wrap ((0 : Int) + 1) = 1 := IntWalk.i64_in _ (by omega)
  obtain ⟨n', hn', l1, l2⟩ : ∃ n' : Nat, (if (1 : Int) < (lim : Int) then (1 : Int) else (lim : Int)) = (n' : Int) ∧ 0 < n' ∧ n' ≤ lim := by
    by_cases h : 1 < lim
    · exact ⟨1, by rw [if_pos (by omega)]; rfl, by omega, by omega⟩
    · exact ⟨lim, by rw [if_neg (by omega)], by omega, by omega⟩
  simp only [W1, W2, hn']
  clear W1 W2 hn'
  obtain ⟨i0, hi, hz0, hz1, hz2⟩ := info_parts info_str
  refine wpList_make_full _ rfl (.tmp 30) (.tmp 30) 129 rfl 0 9 i0 (.string ⟨#[]⟩) 1 Try.underlying129 hi hz0 hz1 .i64 .i64 n' n' n' rfl rfl rfl rfl (by rw [hz2]; omega) (by unfold maxLen; omega) (Nat.zero_le _) ?_
  intro w2 hown2 hgrow2
  have X2 : Chg (fun k => k = q) w w2 := (X1.drew).trans ((Chg.ofGrown hgrow2).mono (by intro k _ h; simp at h))
  have H2 : QI w2 q T 9 (.slice none 0 0) 0 cap 0 0 lim cells := (HH1.out.heap (w' := w1.drew) rfl).chg (S := fun k => False) ((Chg.ofGrown hgrow2).mono (by intro k _ h; simp at h)) (fun h => h) (fun _ _ h => h)
  have L2 := list_none q w2 H2.c2
  have c0 := H2.c0
  have c1 := H2.c1
  have z0 := H2.fz 0
  have z1 := H2.fz 1
  have HH2 := Lib.hid H2
  obtain ⟨g1, hg1⟩ : ∃ g1, g1 = w1.heap.size := ⟨_, rfl⟩
  have hO3 : w2.ownsRow 0 9 1 (.slice (some ⟨g1, 0, none⟩) n' n') n' (madeCells (Value.string ⟨#[]⟩).cells (n' * 1)).toList := by rw [hg1]; exact hown2
  have hq1 : q < w1.heap.size := HH1.out.lt
  have HO4 := Lib.hid hO3
  clear H2 c2 c3 i0 hi hz0 hz1 hz2 hown2 hgrow2 hO3
  change wpList _ _ _ _ _ _
  rw [show w1.drew.heap.size = g1 from hg1.symm]
  have HE := Lib.hid hg1
  clear hg1
  go_wp2_with fail
  refine L2.mono ?_
  rintro e w3 ⟨rfl, rfl⟩
  go_wp2_with (refine wpList_copy_nothing rfl (.tmp 32) (.tmp 34) 129 129 rfl 9 Try.underlying129 (by kernel_rfl) (some ⟨g1, 0, none⟩) none n' n' 0 0 rfl rfl (Nat.zero_min _) ?_)
  obtain ⟨w5, hw5⟩ : ∃ y, y = (w2.setCell ⟨q, 0, none⟩ (.slice (some ⟨g1, 0, none⟩) n' n')).setCell ⟨q, 1, none⟩ (.int .i64 0) := ⟨_, rfl⟩
  rw [← hw5]
  have hq1' : q < g1 := by rw [HE.out]; exact hq1
  obtain ⟨c5, hc5⟩ : ∃ y, y = (madeCells (Value.string ⟨#[]⟩).cells (n' * 1)).toList := ⟨_, rfl⟩
  have H5 : QI w5 q T 9 (.slice (some ⟨g1, 0, none⟩) n' n') n' n' 0 0 lim c5 := by
    rw [hw5, hc5]; exact (HH2.out.newRing HO4.out (by omega) (by omega) (by omega) l2).1
  have X5 : Chg (fun k => k = q) w w5 := by rw [hw5]; exact (X2.setCell _ _ rfl).setCell _ _ rfl
  clear hw5 c0 c1 z0 z1
  have c0 := H5.c0
  have c2 := H5.c2
  have hlen := H5.len
  obtain ⟨u, hcell⟩ : ∃ u, w5.cell? ⟨g1, 0, none⟩ = some u := ⟨c5[0]'(by omega), by rw [H5.own.cellAt 0 (by omega)]; simp [hlen, l1]⟩
  have hfz : w5.frozen? ⟨g1, 0, none⟩ = false := H5.own.frozenAt 0
  have A : ∀ W : World, W.heap = w5.heap → Calls Try.prog 71 #[.pointer (some ⟨q, 0, none⟩), .int .i64 0] W fun e w' => e = .returned (.int .i64 0) ∧ ∃ d, w' = W.drewN d := fun W e => by
    have HW := H5.heap e
    have := at_q q _ n' 0 0 n' W (by omega) (by omega) (by omega) HW.c0 HW.c1
    rw [show (0 + 0) % n' = 0 by rw [Nat.zero_add]; exact Nat.mod_eq_of_lt l1] at this
    exact this
  have HA := Lib.hid A
  have HH5 := Lib.hid H5
  have HC5 := Lib.hid hc5
  clear A H5 hlen hc5
  go_wp2_with fail
  go_region_law (first
    | (go_simp; go_at_call 71; refine (HA.out (World.drew w5) rfl).mono ?_; rintro e w' ⟨rfl, d, rfl⟩))
  all_goals
    obtain ⟨w6, hw6⟩ : ∃ y, y = (w5.drewN (1 + d)).setCell ⟨g1, 0, none⟩ (.string x) := ⟨_, rfl⟩
    rw [← hw6]
    have H6 : QI w6 q T 9 (.slice (some ⟨g1, 0, none⟩) n' n') n' n' 0 0 lim (c5.set 0 (.string x)) := by
      rw [hw6]; exact (QI.heap HH5.out (w' := w5.drewN (1 + d)) rfl).setRing (by omega) 0 _
    have X6 : Chg (fun k => k = q) w w6 := by
      have s1 := X1.size
      have s2 := HE.out
      rw [hw6]
      exact ⟨X5.os, X5.tape, X5.output, by simpa using X5.size, fun k hk hn => by
        rw [heap_setCell_other _ _ _ _ (show k ≠ g1 by omega)]
        exact X5.block k hk hn⟩
    clear c0 c2 hcell hfz hw6
    have c2 := H6.c2
    have z2 := H6.fz 2
    have HH6 := Lib.hid H6
    clear H6
    go_wp2
    go_ret
    refine ⟨rfl, g1, n', _, l1, HH6.out.set2 1 (by omega), ?_, ?_, ?_, X6.setCell _ _ rfl⟩
    · intro u hu
      rcases List.mem_or_eq_of_mem_set hu with h | h
      · rw [HC5.out] at h
        rw [show (Value.string ⟨#[]⟩).cells = #[Value.string ⟨#[]⟩] from rfl, toList_madeCells_one] at h
        exact ⟨_, List.eq_of_mem_replicate h⟩
      · exact ⟨x, h⟩
    · have hl := HH5.out.len
      rw [HC5.out] at hl ⊢
      exact lst_grow (A := []) _ rfl l1 (by simpa using Nat.le_of_eq hl.symm)
    · rw [HE.out]; exact X1.size

/-- Ints. -/
def IsS (u : Value) : Prop := ∃ z, u = .string z

theorem push_ok (T : TypeId) {w : World} {q lim : Nat} {vs : List Value} {S : Nat → Prop} (x : ByteArray) (h : Qu IsS T 9 w q lim vs S) (hm : vs.length < lim) :
    Calls Try.prog 48 #[.pointer (some ⟨q, 0, none⟩), .string x] w fun e w' => e = .returned .nilIface ∧ ∃ S', Qu IsS T 9 w' q lim (vs ++ [.string x]) S' ∧ Chg S w w' ∧ ∀ k, S' k → S k ∨ w.heap.size ≤ k := by
  obtain ⟨ring, n, cap, first, cells, h1, h2, h3, h4⟩ := h
  have hq : S q := (h4 q).2 (.inl rfl)
  by_cases hmn : vs.length < n
  · rcases h1.form with ⟨_, h0, _⟩ | ⟨g, hr, hg, hf⟩
    · omega
    · subst hr
      refine (push_room q g T n cap first vs.length lim cells w x h1 hf hmn hg).mono ?_
      rintro e w' ⟨rfl, r1, r2⟩
      refine ⟨rfl, S, ⟨_, n, cap, first, _, by rw [List.length_append]; exact r1, ?_, ?_, h4⟩, r2.mono ?_, fun k hk => .inl hk⟩
      · intro u hu
        rcases List.mem_or_eq_of_mem_set hu with h | h
        · exact h2 u h
        · exact ⟨x, h⟩
      · rw [List.length_append]; exact (lst_push _ h1.len hf hmn).trans (by rw [h3])
      · rintro k _ (rfl | rfl)
        · exact hq
        · exact (h4 _).2 (.inr rfl)
  · have e : vs.length = n := by have := h1.many_le; omega
    by_cases h0 : n = 0
    · have e2 : vs = [] := List.length_eq_zero_iff.1 (by omega)
      subst e2
      subst h0
      rcases h1.form with ⟨rfl, _, rfl⟩ | ⟨g, hr, hg, hf⟩
      · refine (push_first q T cap lim cells w x h1 (by simpa using hm)).mono ?_
        rintro e w' ⟨rfl, g, n', c', l1, r1, r2, r3, r4, r5⟩
        refine ⟨rfl, fun k => k = q ∨ k = g, ⟨_, n', n', 0, c', r1, r2, r3, fun k => by simp [Value.ownBlock, eq_comm]⟩, r5.mono (fun k _ hk => hk ▸ hq), fun k hk => ?_⟩
        rcases hk with rfl | rfl
        · exact .inl hq
        · exact .inr r4
      · omega
    · subst e
      refine (push_grow q T ring vs.length cap first lim cells w x h1 hm (by omega) h2).mono ?_
      rintro e w' ⟨rfl, g, n', c', l1, r1, r2, r3, r4, r5⟩
      refine ⟨rfl, fun k => k = q ∨ k = g, ⟨_, n', n', 0, c', by rw [List.length_append]; exact r1, r2, by rw [List.length_append]; exact r3.trans (by rw [h3]), fun k => by simp [Value.ownBlock, eq_comm]⟩, r5.mono (fun k _ hk => hk ▸ hq), fun k hk => ?_⟩
      rcases hk with rfl | rfl
      · exact .inl hq
      · exact .inr r4

theorem pop_ok (T : TypeId) {w : World} {q lim : Nat} {vs : List Value} {x : ByteArray} {S : Nat → Prop} (h : Qu IsS T 9 w q lim (.string x :: vs) S) :
    Calls Try.prog 49 #[.pointer (some ⟨q, 0, none⟩)] w fun e w' => e = .returned (.tuple #[.string x, .nilIface]) ∧ Qu IsS T 9 w' q lim vs S ∧ Chg S w w' := by
  obtain ⟨ring, n, cap, first, cells, h1, h2, h3, h4⟩ := h
  have hm := h1.many_le
  simp only [List.length_cons] at hm h3
  rcases h1.form with ⟨_, h0, _⟩ | ⟨g, hr, hg, hf⟩
  · omega
  · subst hr
    have hx : cells[first]? = some (.string x) := by
      have := congrArg (fun l => l[0]?) h3
      simp [lst, List.getElem?_range, Nat.mod_eq_of_lt hf] at this
      have hl := h1.len
      rw [List.getElem?_eq_getElem (by omega)] at this ⊢
      simpa using this
    refine (pop_some q g T 9 n cap first (vs.length + 1) lim cells x w h1 hg hf (by omega) hx).mono ?_
    rintro e w' ⟨rfl, r1, r2⟩
    refine ⟨rfl, ⟨_, n, cap, _, _, r1, ?_, ?_, h4⟩, r2.mono ?_⟩
    · intro u hu
      rcases List.mem_or_eq_of_mem_set hu with h | h
      · exact h2 u h
      · exact ⟨_, h⟩
    · have := lst_pop (.string ⟨#[]⟩) h1.len hf hm (by omega)
      rw [h3] at this
      exact this
    · rintro k _ (rfl | rfl)
      · exact (h4 _).2 (.inl rfl)
      · exact (h4 _).2 (.inr rfl)


end St
end Go.Proofs.Ytahaclglkbgpcaa
