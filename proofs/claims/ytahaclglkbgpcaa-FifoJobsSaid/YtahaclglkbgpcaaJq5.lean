/- Queues of jobs: Push where the ring grows. -/
import Derived.Test.YtahaclglkbgpcaaJq4
set_option linter.unusedVariables false
set_option linter.unusedSimpArgs false
namespace Go.Proofs.Ytahaclglkbgpcaa
open Go.RowKit
open Go.Proofs.YtahaclglkbgpcaaW.PrintWords (Kd Drawn0 Kept rd rdOf)
open Go.Proofs.Ytahaclglkbgpcaa.PFifoJobs
set_option maxRecDepth 100000

/-- What copy leaves of a new row. -/
theorem kJ_copied {w : World} {g n' cap : Nat} {xs : List Jb} (h : kJ.R 48 w 0 (fun _ => True) (.slice (some ⟨g, 0, none⟩) n' cap) (List.replicate n' zJ)) (hl : xs.length ≤ n') :
    ∃ cur, w.heap[g]? = some (.cells cur 48 (0, 0)) ∧ (flatJ xs).length ≤ cur.size ∧
      kJ.R 48 (w.setRow g (cur.toList.take 0 ++ (flatJ xs ++ cur.toList.drop (0 + (flatJ xs).length))).toArray) 0 (fun k => k = g) (.slice (some ⟨g, 0, none⟩) n' cap) (xs ++ List.replicate (n' - xs.length) zJ) := by
  have hown := kJ_inner h
  simp only [List.length_replicate] at hown
  rcases hown.2 with ⟨h', _⟩ | ⟨g', cap', cur, h', hb, hg, hnc, hcm, hcs, htake⟩
  · simp at h'
  · simp only [Value.slice.injEq, Option.some.injEq, Addr.mk.injEq, and_true, true_and] at h'
    obtain ⟨rfl, rfl⟩ := h'
    have hfl := flatJ_len xs
    have hmul : n' * 4 ≤ cap * 4 := Nat.mul_le_mul_right _ hnc
    refine ⟨cur, hg, by omega, kJ_of_own ⟨flatJ_len _, .inr ⟨g, cap, _, ?_, Nat.zero_le _, setRow_heap _ _ _ _ _ _ hg, ?_, hcm, ?_, ?_⟩⟩ (fun k hk => by simp [Value.ownBlock] at hk; exact hk.symm)⟩
    · simp; omega
    · simp; omega
    · simp; omega
    · have e1 : flatJ (xs ++ List.replicate (n' - xs.length) zJ) = flatJ xs ++ flatJ (List.replicate (n' - xs.length) zJ) := by simp [flatJ]
      have e2 : flatJ (List.replicate n' zJ) = flatJ (List.replicate xs.length zJ) ++ flatJ (List.replicate (n' - xs.length) zJ) := by
        have e : List.replicate n' zJ = List.replicate xs.length zJ ++ List.replicate (n' - xs.length) zJ := by rw [List.replicate_append_replicate, show xs.length + (n' - xs.length) = n' by omega]
        rw [e]
        unfold flatJ
        exact List.flatMap_append
      have e3 : (xs ++ List.replicate (n' - xs.length) zJ).length = n' := by simp; omega
      rw [e3, e1]
      have e4 : (cur.toList.take (n' * 4)).drop (xs.length * 4) = flatJ (List.replicate (n' - xs.length) zJ) := by
        rw [htake, e2]
        rw [show xs.length * 4 = (flatJ (List.replicate xs.length zJ)).length by rw [flatJ_len]; simp]
        exact List.drop_left
      simp only [List.take_zero, List.nil_append, Nat.zero_add, List.toList_toArray]
      rw [List.take_append, List.take_of_length_le (by omega), hfl, ← e4, List.drop_take]

set_option maxHeartbeats 2000000 in
theorem jpush_grow (q g n cap first lim : Nat) (rs : List Jb) (x : Jb) (w : World) (h : JQ w q g n cap first n lim rs) (hm : n < lim) :
    Calls Try.prog 23 #[.pointer (some ⟨q, 0, none⟩), .agg #[.int .i64 x.f0, .int .i64 x.f1, .int .i64 x.f2, .int .i64 x.f3]] w fun e w' => e = .returned .nilIface ∧ ∃ g' n' cap' rs',
      JQ w' q g' n' cap' 0 (n + 1) lim rs' ∧ jl rs' n' 0 (n + 1) = jl rs n first n ++ [x] ∧ w.heap.size ≤ g' ∧ Chg (fun k => k = q) w w' := by
  have hq0 := h.lt
  obtain ⟨bq, hbq⟩ : ∃ b, b = w.heap.size := ⟨_, rfl⟩
  obtain ⟨wa, hwa⟩ : ∃ y, y = w.alloc (.cells #[.int .i64 x.f0, .int .i64 x.f1, .int .i64 x.f2, .int .i64 x.f3] 48) := ⟨_, rfl⟩
  have hbx : wa.heap[bq]? = some (.cells #[.int .i64 x.f0, .int .i64 x.f1, .int .i64 x.f2, .int .i64 x.f3] 48 (0, 0)) := by rw [hwa, hbq]; exact heap_alloc_new w _
  have xa : Chg (fun _ => False) w wa := by rw [hwa]; exact (Chg.refl _ w).alloc _
  have hsa : wa.heap.size = w.heap.size + 1 := by rw [hwa]; simp
  replace h := h.chgA xa
  have HBX := Lib.hid hbx
  have XA := Lib.hid xa
  have HWA := Lib.hid hwa
  have HBQ := Lib.hid hbq
  clear hbx xa hwa hbq
  have c0 := h.c0
  have c2 := h.c2
  have c3 := h.c3
  have L := jroom_ok q n lim wa h.c2 h.c3 (by omega) h.lim_le
  have b4 : lim ≤ 4096 := h.lim_le
  have hn0 : 0 < n := by have := h.f_lt; omega
  have HH := Lib.hid h
  clear h
  have t0 : ((((lim - n : Nat) : Int)) == 0) = false := by simp; omega
  go_enter Try.func23, Try.ntmps23
  go_wp2_with fail
  rw [← HWA.out, ← HBQ.out]
  refine L.mono ?_
  rintro e w1 ⟨rfl, rfl⟩
  go_wp2_with fail
  go_quiet (fail)
  obtain ⟨w1, hw1⟩ : ∃ x, x = wa.drewN nq := ⟨_, rfl⟩
  rw [← hw1]
  have H7 := HH.out.heap (w' := w1) (by rw [hw1]; rfl)
  have X1 : Chg (fun k => k = q) wa w1 := by rw [hw1]; exact (Chg.refl _ wa).drewN nq
  clear c0 c2 c3 hw1
  have c0 := H7.c0
  have c2 := H7.c2
  have c3 := H7.c3
  have HH1 := Lib.hid H7
  clear H7
  go_wp2_with fail
  go_still_tail 11, (by kernel_rfl)
  change wpList _ _ _ _ _ w1.drew
  have W1 : IntKind.i64.wrap (2 * (n : Int)) = 2 * n := IntWalk.i64_in _ (by omega)
  have W2 : IntKind.i64.wrap (2 * (n : Int) + 1) = 2 * n + 1 := IntWalk.i64_in _ (by omega)
  obtain ⟨n', hn', l1, l2⟩ : ∃ n' : Nat, (if 2 * (n : Int) + 1 < (lim : Int) then 2 * (n : Int) + 1 else (lim : Int)) = (n' : Int) ∧ n < n' ∧ n' ≤ lim := by
    by_cases h : 2 * n + 1 < lim
    · exact ⟨2 * n + 1, by rw [if_pos (by omega)]; omega, by omega, by omega⟩
    · exact ⟨lim, by rw [if_neg (by omega)], by omega, by omega⟩
  simp only [W1, W2, hn']
  clear W1 W2 hn'
  refine Kd.R_make kJ (w0 := w1) w1.heap.size 48 rfl rfl 43 (.tmp 30) (.tmp 30) rfl (n' : Int) rfl rfl Try.underlying43 (.agg #[.int .i64 0, .int .i64 0, .int .i64 0, .int .i64 0]) 32 infoJ rfl (by decide) (by omega) zJ (ok := fun _ => True) (okp := fun _ => False) (k48_mkM _ _ _ _) (fun _ f => f.elim) trivial (by omega) (by simp; omega) (Below.drew (Below.refl _ _)) (Nat.le_refl _) ?_
  intro v2 w2 hR2 hB2 hg2 hat2
  rw [Int.toNat_natCast] at hR2
  obtain ⟨g1, cap1, rfl, hg1b, hg1l, -⟩ := Kd.R_form hR2 (by simp; omega)
  rw [List.length_replicate] at hR2 ⊢
  have X2 : Chg (fun k => k = q) wa w2 := X1.trans (Chg.ofBelow hB2 _)
  have H2 := HH1.out.below hB2
  have L2 := jlist_some q g n cap first n lim rs w2 H2
  have HH2 := Lib.hid H2
  have HR2 := Lib.hid hR2
  have hq1 : q < w1.heap.size := HH1.out.lt
  have hg1q : g < w1.heap.size := HH1.out.ltg
  clear H2 c0 c2 c3 hR2 hB2 hg2 hat2
  go_wp2_with fail
  refine L2.mono ?_
  rintro e w3 ⟨v, rfl, hR3, hb3⟩
  have hjl : (jl rs n first n).length = n := jl_length _ _ _ _
  obtain ⟨g2, cp2, rfl, -, -, -⟩ := Kd.R_form hR3 (by omega)
  obtain ⟨cur, hg3, hcs, hR4⟩ := kJ_copied (xs := jl rs n first n) (Kd.R_lower (Kd.R_mono (Kd.R_below HR2.out hb3) (fun _ _ => trivial)) (Nat.zero_le _)) (by omega)
  have hQ3 := HH2.out.below hb3
  have X3 := X2.trans (Chg.ofBelow hb3 _)
  have hsrc : ∀ j u, (flatJ (jl rs n first n))[j]? = some u → w3.cell? ((⟨g2, 0, none⟩ : Addr).add j) = some u := (kJ_inner hR3).cells rfl
  have HS := Lib.hid hsrc
  have H1C := Lib.hid (flatJ_one (jl rs n first n))
  obtain ⟨w4, hw4⟩ : ∃ y, y = w3.setRow g1 (cur.toList.take 0 ++ (flatJ (jl rs n first n) ++ cur.toList.drop (0 + (flatJ (jl rs n first n)).length))).toArray := ⟨_, rfl⟩
  rw [← hw4] at hR4
  have X4 : Chg (fun k => k = q) wa w4 := ⟨by rw [hw4]; exact X3.os, by rw [hw4]; exact X3.tape, by rw [hw4]; exact X3.output, by rw [hw4]; simpa using X3.size, fun k hk hn => by
    have := X1.size
    rw [hw4, setRow_other w3 g1 k _ (by omega)]
    exact X3.block k hk hn⟩
  have hQ4 : JQ w4 q g n cap first n lim rs := by
    refine hQ3.chg (S := fun k => k = g1) ⟨by rw [hw4]; rfl, by rw [hw4]; rfl, by rw [hw4]; rfl, by rw [hw4]; simp, fun k hk hn => by rw [hw4, setRow_other _ _ _ _ hn]⟩ (fun e => by have e' : q = g1 := e; omega) (fun e => by have e' : g = g1 := e; omega)
  have c0 := hQ4.c0
  have c1 := hQ4.c1
  have z0 := hQ4.fz 0
  have z1 := hQ4.fz 1
  have HW4 := Lib.hid hw4
  have HR4 := Lib.hid hR4
  have HQ4 := Lib.hid hQ4
  have HX3 := Lib.hid hjl
  rw [hjl] at hR3 ⊢
  clear hw4 hQ4 hR4 hsrc hR3 hQ3 HH2 HR2 hb3 hjl
  go_wp2_with (refine wpList_copy_ownN rfl (.tmp 32) (.tmp 34) 43 43 rfl 48 Try.underlying43 4 n (by kernel_rfl) g1 0 n' cap1 ⟨g2, 0, none⟩ n cp2 rfl rfl cur 48 hg3 (flatJ (jl rs n first n)) (Nat.min_eq_left (by omega)).symm (by rw [flatJ_len, HX3.out]) HS.out (by omega) H1C.out ?_; rw [← HW4.out])
  obtain ⟨w5, hw5⟩ : ∃ y, y = (w4.setCell ⟨q, 0, none⟩ (.slice (some ⟨g1, 0, none⟩) n' cap1)).setCell ⟨q, 1, none⟩ (.int .i64 0) := ⟨_, rfl⟩
  rw [← hw5]
  have H5 : JQ w5 q g1 n' cap1 0 n lim (jl rs n first n ++ List.replicate (n' - n) zJ) := by
    have hr := HR4.out
    rw [HX3.out] at hr
    rw [hw5]; exact JQ.ring0 HQ4.out.blk n rfl hr (by omega) (by omega) (by omega) l2 b4
  have X5 : Chg (fun k => k = q) wa w5 := by rw [hw5]; exact (X4.setCell _ _ rfl).setCell _ _ rfl
  clear hw5 c0 c1 z0 z1
  have c0 := H5.c0
  have c2 := H5.c2
  obtain ⟨y, hy, hd⟩ := H5.at n
  have e0 : (0 + n) % n' = n := by rw [Nat.zero_add]; exact Nat.mod_eq_of_lt l1
  rw [e0] at hy
  obtain ⟨x0, x1, x2, x3⟩ := H5.cells hy
  obtain ⟨f0, f1, f2, f3⟩ := H5.frozen hy
  have A := H5.at_any n (by omega)
  rw [e0] at A
  have HA := Lib.hid A
  have HH5 := Lib.hid H5
  obtain ⟨v0, v1, v2, v3⟩ := box_cells (X5.heap HBX.out (by show ¬ bq = q; have := HBQ.out; omega))
  clear A H5 hcs hg3 hy hd e0
  go_wp2_with fail
  go_region_law (first
    | (go_simp; go_at_call 56; refine (HA.out (World.drew w5) rfl).mono ?_; rintro e w' ⟨rfl, d, rfl⟩))
  all_goals
    obtain ⟨w6, hw6⟩ : ∃ y, y = ((((w5.drewN (1 + d)).setCell ⟨g1, n * 4, none⟩ (.int .i64 x.f0)).setCell ⟨g1, n * 4 + 1, none⟩ (.int .i64 x.f1)).setCell ⟨g1, n * 4 + 2, none⟩ (.int .i64 x.f2)).setCell ⟨g1, n * 4 + 3, none⟩ (.int .i64 x.f3) := ⟨_, rfl⟩
    rw [← hw6]
    have H6 : JQ w6 q g1 n' cap1 0 n lim ((jl rs n first n ++ List.replicate (n' - n) zJ).set n x) := by
      rw [hw6]; exact (HH5.out.heap (w' := w5.drewN (1 + d)) rfl).set l1 x
    have X6 : Chg (fun k => k = q) wa w6 := by
      have s1 := X1.size
      rw [hw6]
      exact ⟨X5.os, X5.tape, X5.output, by simpa using X5.size, fun k hk hn => by
        rw [heap_setCell_other _ _ _ _ (show k ≠ g1 by omega), heap_setCell_other _ _ _ _ (show k ≠ g1 by omega), heap_setCell_other _ _ _ _ (show k ≠ g1 by omega), heap_setCell_other _ _ _ _ (show k ≠ g1 by omega)]
        exact X5.block k hk hn⟩
    clear c0 c2 x0 x1 x2 x3 f0 f1 f2 f3 hw6
    have c2 := H6.c2
    have z2 := H6.fz 2
    have HH6 := Lib.hid H6
    have s1 := X1.size
    clear H6
    go_wp2
    go_ret
    exact ⟨rfl, g1, n', cap1, _, HH6.out.set2 (n + 1) (by omega), jl_grow x HX3.out l1, by omega, (XA.out.mono (fun _ _ f => f.elim)).trans (X6.setCell _ _ rfl)⟩

end Go.Proofs.Ytahaclglkbgpcaa
