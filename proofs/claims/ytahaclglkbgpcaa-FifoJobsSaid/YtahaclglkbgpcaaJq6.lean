/- Queues of jobs: the first Push; New. -/
import Derived.Test.YtahaclglkbgpcaaJq5
set_option linter.unusedVariables false
set_option linter.unusedSimpArgs false
namespace Go.Proofs.Ytahaclglkbgpcaa
open Go.RowKit
open Go.Proofs.YtahaclglkbgpcaaW.PrintWords (Kd Drawn0 Kept rd rdOf)
open Go.Proofs.Ytahaclglkbgpcaa.PFifoJobs
set_option maxRecDepth 100000

theorem wpList_copy_nilN {P : Program} {w : World} {ops : Array Oper} {rest : List Oper} {o : Oper} {a : Act} {Q : Exit → Act → World → Prop} (hgd : o.guard = none) (d s : Operand) (dT sT : TypeId)
    (ho : o.op = .call { callee := .builtin .copy, args := #[d, s], argTypes := #[dT, sT] }) (elem : TypeId) (hu : P.underlying dT = some (.slice elem)) (hsz : ((P.info? elem).map (·.size)).isSome = true)
    (ad : Addr) (dLen dCap : Nat) (hd : a.eval d = .slice (some ad) dLen dCap) (hs : a.eval s = .slice none 0 0)
    (h : wpList P ops Q rest (a.put o.dst (goInt 0)) w) : wpList P ops Q (o :: rest) a w := by
  refine wpList_plain hgd fun K hK => ?_
  have hrun := run_copy_nil (P := P) w dT sT o.type elem ad dLen dCap hu hsz
  unfold Oper.wp
  simp [execOp, ho, resolve, invoke, builtin, hd, hs, hrun, Result.andThen]
  exact hK _ _ h
theorem kJ_g {w : World} {base g n cap : Nat} {ok : Nat → Prop} {xs : List Jb} (h : kJ.R 48 w base ok (.slice (some ⟨g, 0, none⟩) n cap) xs) : kJ.R 48 w 0 (fun k => k = g) (.slice (some ⟨g, 0, none⟩) n cap) xs :=
  kJ_of_own (kJ_inner (Kd.R_lower h (Nat.zero_le _))) (fun k hk => by simp [Value.ownBlock] at hk; exact hk.symm)

set_option maxHeartbeats 2000000 in
theorem jpush_first (q lim : Nat) (x : Jb) (w : World) (h : JN w q lim) (hm : 0 < lim) :
    Calls Try.prog 23 #[.pointer (some ⟨q, 0, none⟩), .agg #[.int .i64 x.f0, .int .i64 x.f1, .int .i64 x.f2, .int .i64 x.f3]] w fun e w' => e = .returned .nilIface ∧ ∃ g' n' cap' rs',
      JQ w' q g' n' cap' 0 1 lim rs' ∧ jl rs' n' 0 1 = [x] ∧ w.heap.size ≤ g' ∧ Chg (fun k => k = q) w w' := by
  have hq0 := h.lt
  obtain ⟨bq, hbq⟩ : ∃ b, b = w.heap.size := ⟨_, rfl⟩
  obtain ⟨wa, hwa⟩ : ∃ y, y = w.alloc (.cells #[.int .i64 x.f0, .int .i64 x.f1, .int .i64 x.f2, .int .i64 x.f3] 48) := ⟨_, rfl⟩
  have hbx : wa.heap[bq]? = some (.cells #[.int .i64 x.f0, .int .i64 x.f1, .int .i64 x.f2, .int .i64 x.f3] 48 (0, 0)) := by rw [hwa, hbq]; exact heap_alloc_new w _
  have xa : Chg (fun _ => False) w wa := by rw [hwa]; exact (Chg.refl _ w).alloc _
  have hsa : wa.heap.size = w.heap.size + 1 := by rw [hwa]; simp
  replace h := h.chgA xa
  have HBX := Lib.hid hbx
  have XA := Lib.hid xa
  have HWA := Lib.hid hwa
  have HBQ := Lib.hid hbq
  clear hbx xa hwa hbq
  have c0 := h.c0
  have c2 := h.c2
  have c3 := h.c3
  have L := jroom_ok q 0 lim wa h.c2 h.c3 (by omega) h.lim_le
  have b4 : lim ≤ 4096 := h.lim_le
  have HH := Lib.hid h
  clear h
  have t0 : (((lim - 0 : Nat) : Int) == 0) = false := by simp; omega
  go_enter Try.func23, Try.ntmps23
  go_wp2_with fail
  rw [← HWA.out, ← HBQ.out]
  refine L.mono ?_
  rintro e w1 ⟨rfl, rfl⟩
  go_wp2_with fail
  go_quiet (fail)
  obtain ⟨w1, hw1⟩ : ∃ x, x = wa.drewN nq := ⟨_, rfl⟩
  rw [← hw1]
  have H7 := HH.out.heap (w' := w1) (by rw [hw1]; rfl)
  have X1 : Chg (fun k => k = q) wa w1 := by rw [hw1]; exact (Chg.refl _ wa).drewN nq
  clear c0 c2 c3 hw1
  have c0 := H7.c0
  have c2 := H7.c2
  have c3 := H7.c3
  have HH1 := Lib.hid H7
  clear H7
  go_wp2_with fail
  go_still_tail 11, (by kernel_rfl)
  change wpList _ _ _ _ _ w1.drew
  have W1 : IntKind.i64.wrap 0 = 0 := IntWalk.i64_in _ (by omega)
  have W2 : IntKind.i64.wrap ((0 : Int) + 1) = 1 := IntWalk.i64_in _ (by omega)
  obtain ⟨n', hn', l1, l2⟩ : ∃ n' : Nat, (if (1 : Int) < (lim : Int) then (1 : Int) else (lim : Int)) = (n' : Int) ∧ 0 < n' ∧ n' ≤ lim := by
    by_cases h : 1 < lim
    · exact ⟨1, by rw [if_pos (by omega)]; rfl, by omega, by omega⟩
    · exact ⟨lim, by rw [if_neg (by omega)], by omega, by omega⟩
  simp only [W1, W2, hn']
  clear W1 W2 hn'
  refine Kd.R_make kJ (w0 := w1) w1.heap.size 48 rfl rfl 43 (.tmp 30) (.tmp 30) rfl (n' : Int) rfl rfl Try.underlying43 (.agg #[.int .i64 0, .int .i64 0, .int .i64 0, .int .i64 0]) 32 infoJ rfl (by decide) (by omega) zJ (ok := fun _ => True) (okp := fun _ => False) (k48_mkM _ _ _ _) (fun _ f => f.elim) trivial (by omega) (by simp; omega) (Below.drew (Below.refl _ _)) (Nat.le_refl _) ?_
  intro v2 w2 hR2 hB2 hg2 hat2
  rw [Int.toNat_natCast] at hR2
  obtain ⟨g1, cap1, rfl, hg1b, hg1l, -⟩ := Kd.R_form hR2 (by simp; omega)
  rw [List.length_replicate] at hR2 ⊢
  have X2 : Chg (fun k => k = q) wa w2 := X1.trans (Chg.ofBelow hB2 _)
  have H2 := HH1.out.below hB2
  have L2 := jlist_none q w2 H2.c2
  have hq1 : q < w1.heap.size := HH1.out.lt
  have c0 := H2.c0
  have c1 := H2.c1
  have z0 := H2.fz 0
  have z1 := H2.fz 1
  have HH2 := Lib.hid H2
  have HR2 := Lib.hid hR2
  clear H2 c2 c3 hR2 hB2 hg2 hat2
  go_wp2_with fail
  refine L2.mono ?_
  rintro e w3 ⟨rfl, rfl⟩
  go_wp2_with (refine wpList_copy_nilN rfl (.tmp 32) (.tmp 34) 43 43 rfl 48 Try.underlying43 (by kernel_rfl) ⟨g1, 0, none⟩ n' cap1 rfl rfl ?_)
  obtain ⟨w5, hw5⟩ : ∃ y, y = (w2.setCell ⟨q, 0, none⟩ (.slice (some ⟨g1, 0, none⟩) n' cap1)).setCell ⟨q, 1, none⟩ (.int .i64 0) := ⟨_, rfl⟩
  rw [← hw5]
  have hgq : g1 ≠ q := by omega
  have H5 : JQ w5 q g1 n' cap1 0 0 lim (List.replicate n' zJ) := by
    rw [hw5]; exact JQ.ring0 HH2.out.blk 0 rfl (kJ_g HR2.out) hgq (by omega) (by omega) l2 b4
  have X5 : Chg (fun k => k = q) wa w5 := by rw [hw5]; exact (X2.setCell _ _ rfl).setCell _ _ rfl
  clear hw5 c0 c1 z0 z1
  have c0 := H5.c0
  have c2 := H5.c2
  obtain ⟨y, hy, hd⟩ := H5.at 0
  have e0 : (0 + 0) % n' = 0 := by simp
  rw [e0] at hy
  obtain ⟨x0, x1, x2, x3⟩ := H5.cells hy
  obtain ⟨f0, f1, f2, f3⟩ := H5.frozen hy
  simp only [Nat.zero_mul, Nat.zero_add] at x0 x1 x2 x3 f0 f1 f2 f3
  have A := H5.at_any 0 (by omega)
  rw [e0] at A
  have HA := Lib.hid A
  have HH5 := Lib.hid H5
  obtain ⟨v0, v1, v2, v3⟩ := box_cells (X5.heap HBX.out (by show ¬ bq = q; have := HBQ.out; omega))
  clear A H5 hy hd e0
  go_wp2_with fail
  go_region_law (first
    | (go_simp; go_at_call 56; refine (HA.out (World.drew w5) rfl).mono ?_; rintro e w' ⟨rfl, d, rfl⟩))
  all_goals
    obtain ⟨w6, hw6⟩ : ∃ y, y = ((((w5.drewN (1 + d)).setCell ⟨g1, 0, none⟩ (.int .i64 x.f0)).setCell ⟨g1, 1, none⟩ (.int .i64 x.f1)).setCell ⟨g1, 2, none⟩ (.int .i64 x.f2)).setCell ⟨g1, 3, none⟩ (.int .i64 x.f3) := ⟨_, rfl⟩
    rw [← hw6]
    have H6 : JQ w6 q g1 n' cap1 0 0 lim ((List.replicate n' zJ).set 0 x) := by
      have h := (HH5.out.heap (w' := w5.drewN (1 + d)) rfl).set (i := 0) l1 x
      simp only [Nat.zero_mul, Nat.zero_add] at h
      rw [hw6]; exact h
    have X6 : Chg (fun k => k = q) wa w6 := by
      have s1 := X1.size
      rw [hw6]
      exact ⟨X5.os, X5.tape, X5.output, by simpa using X5.size, fun k hk hn => by
        rw [heap_setCell_other _ _ _ _ (show k ≠ g1 by omega), heap_setCell_other _ _ _ _ (show k ≠ g1 by omega), heap_setCell_other _ _ _ _ (show k ≠ g1 by omega), heap_setCell_other _ _ _ _ (show k ≠ g1 by omega)]
        exact X5.block k hk hn⟩
    clear c0 c2 x0 x1 x2 x3 f0 f1 f2 f3 hw6
    have c2 := H6.c2
    have z2 := H6.fz 2
    have HH6 := Lib.hid H6
    have s1 := X1.size
    clear H6
    go_wp2
    go_ret
    exact ⟨rfl, g1, n', cap1, _, HH6.out.set2 1 (by omega), by have := jl_grow (xs := []) x rfl l1; simpa using this, by omega, (XA.out.mono (fun _ _ f => f.elim)).trans (X6.setCell _ _ rfl)⟩

end Go.Proofs.Ytahaclglkbgpcaa
