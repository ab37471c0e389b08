/- Queues of jobs: List, Head, Put, Pop. -/
import Derived.Test.YtahaclglkbgpcaaJq1
set_option linter.unusedVariables false
set_option linter.unusedSimpArgs false
namespace Go.Proofs.Ytahaclglkbgpcaa
open Go.RowKit
open Go.Proofs.YtahaclglkbgpcaaW.PrintWords (Kd Drawn0 Kept rd rdOf)
open Go.Proofs.Ytahaclglkbgpcaa.PFifoJobs
set_option maxRecDepth 100000

theorem infoJ : (Try.prog.info? 48).map (fun i => (i.zero, i.size, i.bytes)) = some (some (.agg #[.int .i64 0, .int .i64 0, .int .i64 0, .int .i64 0]), 4, 32) := by kernel_rfl

section
variable {w : World} {q g n cap first many lim : Nat} {rs : List Jb}
theorem JQ.small (h : JQ w q g n cap first many lim rs) : n ≤ 4096 := by have := h.n_le; have := h.lim_le; omega
/-- at, in whatever world of this heap. -/
theorem JQ.at_any (h : JQ w q g n cap first many lim rs) (i : Nat) (hi : i ≤ n) : ∀ W : World, W.heap = w.heap → Calls Try.prog 56 #[.pointer (some ⟨q, 0, none⟩), .int .i64 i] W fun e w' => e = .returned (.int .i64 (((first + i) % n : Nat) : Int)) ∧ ∃ d, w' = W.drewN d := fun W e =>
  have HW := h.heap e
  jat_q q _ cap i first n W h.small h.f_lt hi HW.c0 HW.c1
end

set_option maxHeartbeats 1000000 in
theorem jlist_some (q g n cap first many lim : Nat) (rs : List Jb) (w : World) (h : JQ w q g n cap first many lim rs) :
    Calls Try.prog 55 #[.pointer (some ⟨q, 0, none⟩)] w fun e w' => ∃ v, e = .returned v ∧ kJ.R 48 w' w.heap.size (fun _ => True) v (jl rs n first many) ∧ Below w.heap.size w w' := by
  have c2 := h.c2
  have b4 : many ≤ 4096 := by have := h.many_le; have := h.small; omega
  have HH := Lib.hid h
  clear h
  go_enter Try.func55, Try.ntmps55
  go_wp2_with fail
  refine (jlen_ok q many w c2).mono ?_
  rintro e w1 ⟨rfl, rfl⟩
  go_wp2_with fail
  clear c2
  go_loopw [3, 7] (fun v i wr => ∃ k : Nat, k ≤ many ∧ i = .int .i64 k ∧ Hid (kJ.R 48 wr w.heap.size (fun _ => True) v (jl rs n first k)) ∧ Hid (Below w.heap.size w wr)) (fun _ i _ => many - (intOf i).toNat)
  case atStart => exact ⟨0, Nat.zero_le _, rfl, Lib.hid (Kd.R_nil _ _ _ _ _), Lib.hid (Below.refl _ _)⟩
  case round =>
    obtain ⟨k, hk, rfl, hR, hB⟩ := hrel
    by_cases hlt : k < many
    · have HQ := HH.out.below hB.out
      have c0 := HQ.c0
      have c1 := HQ.c1
      obtain ⟨j, hj⟩ : ∃ j, j = (first + k) % n := ⟨_, rfl⟩
      have hjn : j < n := by rw [hj]; exact Nat.mod_lt _ (by have := HQ.f_lt; omega)
      obtain ⟨x, hx, hd⟩ := HQ.at k
      rw [← hj] at hx
      obtain ⟨x0, x1, x2, x3⟩ := HQ.cells hx
      have A := HQ.at_any k (by have := HQ.many_le; omega)
      rw [← hj] at A
      have HA := Lib.hid A
      have HS := Lib.hid (show jl rs n first (k + 1) = jl rs n first k ++ [x] by rw [jl_succ, hd])
      have hlk : (jl rs n first k).length = k := jl_length _ _ _ _
      have hqw := HQ.lt
      have hgw := HQ.ltg
      clear HQ A hj hd hx
      go_wp2_with fail
      go_region_law (first
        | (go_simp; go_at_call 56; refine (HA.out (World.drew wr) rfl).mono ?_; rintro e w' ⟨rfl, d, rfl⟩)
        | (refine Kd.R_append_step kJ (w0 := w) w.heap.size (by rfl) (.tmp 10) (.tmp 20) 43 48 (.agg #[.int .i64 0, .int .i64 0, .int .i64 0, .int .i64 0]) 32 rfl Try.underlying43 infoJ rfl (by decide) (by omega) _ (jl rs n first k) x (cJ x) (fun _ => True) (fun _ => False) rfl rfl (k48_mkM _ _ _ _) (fun _ hk => hk.elim) (fun _ _ => trivial) (Kd.R_drewN hR.out _) (below_drewN' hB.out _) (by have := hB.out.size; simp; omega) (by omega) ?_; intro v1 w1 hR1 hB1 hg1 hat1))
      all_goals
        have HR1 := Lib.hid (show kJ.R 48 w1 w.heap.size (fun _ => True) v1 (jl rs n first (k + 1)) by rw [HS.out]; exact hR1)
        have HB1 := Lib.hid hB1
        clear hR1 hB1 hg1 hat1
        go_wp2
        go_roundw
        case rel => exact ⟨k + 1, by omega, by go_num, HR1, HB1⟩
        case measure => simp [intOf]; omega
    · obtain rfl : k = many := by omega
      go_wp2
      go_ret
      exact ⟨_, rfl, hR.out, hB.out⟩

theorem jlist_none (q : Nat) (w : World) (c2 : w.cell? ⟨q, 2, none⟩ = some (.int .i64 0)) :
    Calls Try.prog 55 #[.pointer (some ⟨q, 0, none⟩)] w fun e w' => e = .returned (.slice none 0 0) ∧ w = w' := by
  go_enter Try.func55, Try.ntmps55
  go_wp2_with fail
  refine (jlen_ok q 0 w c2).mono ?_
  rintro e w1 ⟨rfl, rfl⟩
  go_wp2
  go_loop [3, 7] (fun v i => v = .slice none 0 0 ∧ i = .int .i64 0) (fun _ _ => 0)
  case atStart => exact ⟨rfl, rfl⟩
  case round =>
    obtain ⟨rfl, rfl⟩ := hrel
    go_wp2
    go_ret
    exact ⟨rfl, rfl⟩

end Go.Proofs.Ytahaclglkbgpcaa
