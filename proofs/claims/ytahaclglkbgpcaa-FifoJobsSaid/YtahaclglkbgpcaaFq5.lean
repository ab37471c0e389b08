/- Queues of ints: Push where the ring grows. -/
import Derived.Test.YtahaclglkbgpcaaFq4
set_option linter.unusedVariables false
set_option linter.unusedSimpArgs false
namespace Go.Proofs.Ytahaclglkbgpcaa
open Go.RowKit
set_option maxRecDepth 100000

theorem lst_grow {A Z : List Value} {n n' : Nat} (x : Value) (hA : A.length = n) (hl : n < n') (hZ : n' ≤ (A ++ Z).length) : lst ((A ++ Z).set n x) n' 0 (n + 1) = A ++ [x] := by
  apply List.ext_getElem?
  intro i
  by_cases h1 : i < n
  · have h2 : i % n' = i := Nat.mod_eq_of_lt (by omega)
    simp [lst, List.getElem?_map, List.getElem?_range, show i < n + 1 by omega, h2, List.getElem?_set, show n ≠ i by omega, List.getElem?_append, show i < A.length by omega]
  · by_cases h3 : i = n
    · subst h3
      have h2 : i % n' = i := Nat.mod_eq_of_lt (by omega)
      have h4 : i < (A ++ Z).length := by omega
      rcases Z with _ | ⟨z, Z⟩
      · simp at h4; omega
      · simp [lst, List.getElem?_map, List.getElem?_range, h2, hA, List.getElem?_append_right]
    · rw [List.getElem?_eq_none (by rw [lst_length]; omega), List.getElem?_eq_none (by simp; omega)]

theorem push_grow (q : Nat) (T : TypeId) (ring : Value) (n cap first lim : Nat) (cells : List Value) (w : World) (x : Int) (h : QI w q T 3 ring n cap first n lim cells) (hm : n < lim) (hn0 : 0 < n) (h1 : ∀ u ∈ cells, ∃ z, u = .int .i64 z) :
    Calls Try.prog 11 #[.pointer (some ⟨q, 0, none⟩), .int .i64 x] w fun e w' => e = .returned .nilIface ∧ ∃ g n' c', n < n' ∧
      QI w' q T 3 (.slice (some ⟨g, 0, none⟩) n' n') n' n' 0 (n + 1) lim c' ∧ (∀ u ∈ c', ∃ z, u = .int .i64 z) ∧ lst c' n' 0 (n + 1) = lst cells n first n ++ [.int .i64 x] ∧ w.heap.size ≤ g ∧ Chg (fun k => k = q) w w' := by
  have c0 := h.c0
  have c2 := h.c2
  have c3 := h.c3
  have L := room_ok q n lim w h.c2 h.c3 (by omega) h.lim_le
  have b4 : lim ≤ 4096 := h.lim_le
  obtain ⟨ra, cp, rfl⟩ : ∃ ra cp, ring = .slice ra n cp := by
    rcases h.form with ⟨rfl, rfl, rfl⟩ | ⟨g, rfl, _⟩
    · exact ⟨none, 0, rfl⟩
    · exact ⟨_, cap, rfl⟩
  have HH := Lib.hid h
  clear h
  have H1 := Lib.hid h1
  clear h1
  have t0 : ((((lim - n : Nat) : Int)) == 0) = false := by simp; omega
  go_enter Try.func11, Try.ntmps11
  go_wp2_with fail
  refine L.mono ?_
  rintro e w1 ⟨rfl, rfl⟩
  go_wp2_with fail
  go_quiet (fail)
  obtain ⟨w1, hw1⟩ : ∃ x, x = w.drewN nq := ⟨_, rfl⟩
  rw [← hw1]
  have H7 : QI w1 q T 3 (.slice ra n cp) n cap first n lim cells := HH.out.heap (by rw [hw1]; rfl)
  have X1 : Chg (fun k => k = q) w w1 := by rw [hw1]; exact (Chg.refl _ w).drewN nq
  clear c0 c2 c3 hw1
  have c0 := H7.c0
  have c2 := H7.c2
  have c3 := H7.c3
  have HH1 := Lib.hid H7
  clear H7
  go_wp2_with fail
  go_still_tail 11, (by kernel_rfl)
  change wpList _ _ _ _ _ w1.drew
  have W1 : IntKind.i64.wrap (2 * (n : Int)) = 2 * n := IntWalk.i64_in _ (by omega)
  have W2 : IntKind.i64.wrap (2 * (n : Int) + 1) = 2 * n + 1 := IntWalk.i64_in _ (by omega)
  obtain ⟨n', hn', l1, l2⟩ : ∃ n' : Nat, (if 2 * (n : Int) + 1 < (lim : Int) then 2 * (n : Int) + 1 else (lim : Int)) = (n' : Int) ∧ n < n' ∧ n' ≤ lim := by
    by_cases h : 2 * n + 1 < lim
    · exact ⟨2 * n + 1, by rw [if_pos (by omega)]; omega, by omega, by omega⟩
    · exact ⟨lim, by rw [if_neg (by omega)], by omega, by omega⟩
  simp only [W1, W2, hn']
  clear W1 W2 hn'
  obtain ⟨i0, hi, hz0, hz1, hz2⟩ := info_parts info_int
  refine wpList_make_full _ rfl (.tmp 30) (.tmp 30) 32 rfl 0 3 i0 (.int .i64 0) 1 Try.underlying32 hi hz0 hz1 .i64 .i64 n' n' n' rfl rfl rfl rfl (by rw [hz2]; omega) (by unfold maxLen; omega) (Nat.zero_le _) ?_
  intro w2 hown2 hgrow2
  have X2 : Chg (fun k => k = q) w w2 := (X1.drew).trans ((Chg.ofGrown hgrow2).mono (by intro k _ h; simp at h))
  have H2 : QI w2 q T 3 (.slice ra n cp) n cap first n lim cells := (HH1.out.heap (w' := w1.drew) rfl).chg (S := fun k => False) ((Chg.ofGrown hgrow2).mono (by intro k _ h; simp at h)) (fun h => h) (fun _ _ h => h)
  have L2 := list_ok q T _ n cap first n lim cells w2 H2 H1.out
  have HH2 := Lib.hid H2
  clear H2 c0 c2 c3 i0 hi hz0 hz1 hz2
  have HO2 := Lib.hid hown2
  clear hown2
  go_wp2_with fail
  refine L2.mono ?_
  rintro e w3 ⟨v, rfl, hown3, hb3⟩
  obtain ⟨g2, cp2, rfl, hge2, hlt2⟩ := hown3.form (by omega)
  obtain ⟨g1, hg1⟩ : ∃ g1, g1 = w1.heap.size := ⟨_, rfl⟩
  have hO3 : w3.ownsRow 0 3 1 (.slice (some ⟨g1, 0, none⟩) n' n') n' (madeCells (Value.int .i64 0).cells (n' * 1)).toList := by
    have := HO2.out.kept (w' := w3) (row := none) ⟨hb3.os, hb3.tape, hb3.output, hb3.size, fun k hk _ => hb3.block k hk⟩ (.inr (by simp [Value.ownBlock]))
    rw [hg1]; exact this
  have hlc : (lst cells n first n).length = n := lst_length _ _ _ _
  obtain ⟨cur, hg3, hcs, hcur, hcopy⟩ := owns_copied (cs := lst cells n first n) hO3
  have hq1 : q < w1.heap.size := HH1.out.lt
  have hQ3 := HH2.out.below hb3
  have X3 := X2.trans (Chg.ofBelow hb3 _)
  have HE := Lib.hid hg1
  have hsrc : ∀ j u, (lst cells n first n)[j]? = some u → w3.cell? ((⟨g2, 0, none⟩ : Addr).add j) = some u := hown3.cells rfl
  have hone : ∀ u ∈ lst cells n first n, u.oneCell' = true := by
    intro u hu
    simp only [lst, List.mem_map, List.mem_range] at hu
    obtain ⟨j, hj, rfl⟩ := hu
    have hl := HH1.out.len
    have : (first + j) % n < n := Nat.mod_lt _ (by omega)
    obtain ⟨z, hz⟩ := H1.out (cells.getD ((first + j) % n) (.int .i64 0)) (by simp [List.getD, List.getElem?_eq_getElem, hl, this])
    rw [hz]; rfl
  have HS := Lib.hid hsrc
  have H1C := Lib.hid hone
  have hown4 := hcopy (by omega)
  obtain ⟨w4, hw4⟩ : ∃ y, y = w3.setRow g1 (cur.toList.take 0 ++ (lst cells n first n ++ cur.toList.drop (0 + (lst cells n first n).length))).toArray := ⟨_, rfl⟩
  rw [← hw4] at hown4
  have X4 : Chg (fun k => k = q) w w4 := ⟨by rw [hw4]; exact X3.os, by rw [hw4]; exact X3.tape, by rw [hw4]; exact X3.output, by rw [hw4]; simpa using X3.size, fun k hk hn => by
    have := X1.size
    rw [hw4, setRow_other w3 g1 k _ (by omega)]
    exact X3.block k hk hn⟩
  have hQ4 : QI w4 q T 3 (.slice ra n cp) n cap first n lim cells := by
    refine hQ3.chg (S := fun k => k = g1) ⟨by rw [hw4]; rfl, by rw [hw4]; rfl, by rw [hw4]; rfl, by rw [hw4]; simp, fun k hk hn => by rw [hw4, setRow_other _ _ _ _ hn]⟩ (fun e => by have e' : q = g1 := e; omega) ?_
    intro k hk e
    have e' : k = g1 := e
    have := HH1.out.own.lt k hk
    omega
  have c0 := hQ4.c0
  have c1 := hQ4.c1
  have z0 := hQ4.fz 0
  have z1 := hQ4.fz 1
  have HW4 := Lib.hid hw4
  have HO4 := Lib.hid hown4
  have HQ4 := Lib.hid hQ4
  clear hw4 hown4 hQ4
  have HO3 := Lib.hid hown3
  have HQ3 := Lib.hid hQ3
  clear hsrc hone hcopy hown3 hQ3 hO3 HH2 HO2 hb3
  rw [← hg1]
  clear hg1
  go_wp2_with (refine wpList_copy_own rfl (.tmp 32) (.tmp 34) 32 32 rfl 3 Try.underlying32 (by kernel_rfl) g1 0 n' n' ⟨g2, 0, none⟩ n cp2 rfl rfl cur 3 hg3 (lst cells n first n) (by rw [hlc]; exact (Nat.min_eq_left (by omega)).symm) HS.out (by omega) H1C.out ?_; rw [← HW4.out])
  obtain ⟨w5, hw5⟩ : ∃ y, y = (w4.setCell ⟨q, 0, none⟩ (.slice (some ⟨g1, 0, none⟩) n' n')).setCell ⟨q, 1, none⟩ (.int .i64 0) := ⟨_, rfl⟩
  rw [← hw5]
  have hq1' : q < g1 := by rw [HE.out]; exact hq1
  obtain ⟨c5, hc5⟩ : ∃ y, y = lst cells n first n ++ List.drop (lst cells n first n).length (madeCells (Value.int .i64 0).cells (n' * 1)).toList := ⟨_, rfl⟩
  have H5 : QI w5 q T 3 (.slice (some ⟨g1, 0, none⟩) n' n') n' n' 0 n lim c5 := by
    rw [hw5, hc5]; exact (HQ4.out.newRing HO4.out (by omega) (by omega) (by omega) l2).1
  have X5 : Chg (fun k => k = q) w w5 := by rw [hw5]; exact (X4.setCell _ _ rfl).setCell _ _ rfl
  clear hw5 c0 c1 z0 z1
  have c0 := H5.c0
  have c2 := H5.c2
  have hlen := H5.len
  obtain ⟨u, hcell⟩ : ∃ u, w5.cell? ⟨g1, n, none⟩ = some u := ⟨c5[n]'(by omega), by rw [H5.own.cellAt n (by omega)]; simp [hlen, l1]⟩
  have hfz : w5.frozen? ⟨g1, n, none⟩ = false := H5.own.frozenAt n
  have A : ∀ W : World, W.heap = w5.heap → Calls Try.prog 46 #[.pointer (some ⟨q, 0, none⟩), .int .i64 n] W fun e w' => e = .returned (.int .i64 (n : Int)) ∧ ∃ d, w' = W.drewN d := fun W e => by
    have HW := H5.heap e
    have := at_q q _ n' n 0 n' W (by omega) (by omega) (by omega) HW.c0 HW.c1
    rw [show (0 + n) % n' = n by rw [Nat.zero_add]; exact Nat.mod_eq_of_lt l1] at this
    exact this
  have HA := Lib.hid A
  have HH5 := Lib.hid H5
  have HC5 := Lib.hid hc5
  clear A H5 hlen hc5 hcs hcur hg3
  go_wp2_with fail
  go_region_law (first
    | (go_simp; go_at_call 46; refine (HA.out (World.drew w5) rfl).mono ?_; rintro e w' ⟨rfl, d, rfl⟩))
  all_goals
    obtain ⟨w6, hw6⟩ : ∃ y, y = (w5.drewN (1 + d)).setCell ⟨g1, n, none⟩ (.int .i64 x) := ⟨_, rfl⟩
    rw [← hw6]
    have H6 : QI w6 q T 3 (.slice (some ⟨g1, 0, none⟩) n' n') n' n' 0 n lim (c5.set n (.int .i64 x)) := by
      rw [hw6]; exact (QI.heap HH5.out (w' := w5.drewN (1 + d)) rfl).setRing (by omega) n _
    have X6 : Chg (fun k => k = q) w w6 := by
      have s1 := X1.size
      have s2 := HE.out
      rw [hw6]
      exact ⟨X5.os, X5.tape, X5.output, by simpa using X5.size, fun k hk hn => by
        rw [heap_setCell_other _ _ _ _ (show k ≠ g1 by omega)]
        exact X5.block k hk hn⟩
    clear c0 c2 hcell hfz hw6
    have c2 := H6.c2
    have z2 := H6.fz 2
    have HH6 := Lib.hid H6
    clear H6
    go_wp2
    go_ret
    refine ⟨rfl, g1, n', _, l1, HH6.out.set2 (n + 1) (by omega), ?_, ?_, ?_, X6.setCell _ _ rfl⟩
    · intro u hu
      rcases List.mem_or_eq_of_mem_set hu with h | h
      · rw [HC5.out] at h
        rcases List.mem_append.1 h with h | h
        · simp only [lst, List.mem_map, List.mem_range] at h
          obtain ⟨j, hj, rfl⟩ := h
          have hl := HH.out.len
          have hjn : (first + j) % n < n := Nat.mod_lt _ (by omega)
          exact H1.out _ (by simp [List.getD, List.getElem?_eq_getElem, hl, hjn])
        · have := List.mem_of_mem_drop h
          rw [show (Value.int .i64 0).cells = #[Value.int .i64 0] from rfl, toList_madeCells_one] at this
          exact ⟨0, List.eq_of_mem_replicate this⟩
      · exact ⟨x, h⟩
    · have hl := HH5.out.len
      rw [HC5.out] at hl ⊢
      exact lst_grow _ hlc l1 (by omega)
    · rw [HE.out]; exact X1.size

end Go.Proofs.Ytahaclglkbgpcaa
