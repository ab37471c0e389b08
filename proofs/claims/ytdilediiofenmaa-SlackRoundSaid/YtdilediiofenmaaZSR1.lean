/- Of the text SR1 only what this claim needs (shake.py, this repo's). -/
import Derived.Test.YtdilediiofenmaaZSKm
set_option linter.unusedVariables false
set_option linter.unusedSimpArgs false
namespace Go.Proofs.Ytdilediiofenmaa
open Go.RowKit
open Go.Proofs.YtdilediiofenmaaW.PrintWords (Kd Drawn0 Kept rd rdOf)
open Go.Proofs.Ytdilediiofenmaa.PSlackRuns
set_option maxRecDepth 100000

/-- (z % m + m) % m, as the program takes it. -/
theorem umodI (z m : Int) (h0 : 0 < m) (h1 : m ≤ 1000000) : ∃ r : Nat, (wrap64 (z.tmod m + m)).tmod m = (r : Int) ∧ (r : Int) < m ∧ wrap64 (z.tmod m) = z.tmod m ∧ wrap64 (z.tmod m + m) = z.tmod m + m := by
  have a := Int.tmod_lt_of_pos z h0
  have b : -m < z.tmod m := by
    have := Int.tmod_lt_of_pos (-z) h0
    rw [Int.neg_tmod] at this
    omega
  have e1 : wrap64 (z.tmod m) = z.tmod m := by unfold wrap64; omega
  have e2 : wrap64 (z.tmod m + m) = z.tmod m + m := by unfold wrap64; omega
  refine ⟨((z.tmod m + m) % m).toNat, ?_, ?_, e1, e2⟩
  all_goals
    have c : 0 ≤ z.tmod m + m := by omega
    have d := Int.emod_nonneg (z.tmod m + m) (by omega : m ≠ 0)
    have f := Int.emod_lt_of_pos (z.tmod m + m) h0
  · rw [e2, Int.tmod_eq_emod_of_nonneg c]
    omega
  · omega

abbrev RH (W : World) (b : Nat) (v : Value) (l : List Int) : Prop := (Kd.int .i64).R 25 W b (fun _ => True) v l
theorem rowH_ty {W : World} {b : Nat} {v : Value} {l : List Int} {k : Nat} (h : RH W b v l) (hk : v.ownBlock = some k) : ∃ cur, W.heap[k]? = some (.cells cur 25 (0, 0)) := by
  rcases (Kd.own_of_R h).2 with ⟨e, -⟩ | ⟨g', cap', cur, e, -, hg, -⟩
  · subst e; simp [Value.ownBlock] at hk
  · subst e; simp [Value.ownBlock] at hk; subst hk; exact ⟨cur, hg⟩
theorem rowH_chg {W W' : World} {b : Nat} {v : Value} {l : List Int} (h : RH W b v l) {S : Nat → Prop} (hc : Chg S W W') (hS : ∀ (k : Nat) (cs : Array Value), W.heap[k]? = some (.cells cs 25 (0, 0)) → ¬ S k) : RH W' b v l := by
  refine Kd.R_mono (Kd.R_step (Kd.R_bound h) (fun k hk hlt => ?_)) (fun _ _ => trivial)
  obtain ⟨-, -, -, q, hq, cells, hcs⟩ := hk
  have : q = 25 := by
    have e : (25 :: (Kd.int .i64).E) = [25] := rfl
    rw [e] at hq
    simpa using hq
  subst this
  exact hc.block k hlt (hS k cells hcs)
section
variable {w w' : World} {p t g cap : Nat} {last : Int} {xs : List Sk}
theorem PL.hnd (h : PL w p t g cap last xs) {k : Nat} {cs : Array Value} (hk : w.heap[k]? = some (.cells cs 25 (0, 0))) : k ≠ p ∧ k ≠ t ∧ k ≠ g := by
  refine ⟨?_, ?_, h.tt.row.ty_ne hk (by decide)⟩
  · rintro rfl
    have := h.blk
    rw [hk] at this
    simp at this
  · rintro rfl
    have := h.tt.blk
    rw [hk] at this
    simp at this
theorem PL.row (h : PL w p t g cap last xs) {b : Nat} {v : Value} {l : List Int} (hR : RH w b v l) (hg : w.grownBy w' v.ownBlock) : PL w' p t g cap last xs := by
  have hc : Chg (fun k => v.ownBlock = some k) w w' := ⟨hg.os, hg.tape, hg.output, hg.size, fun k hk hn => hg.block k hk (fun e => hn e.symm)⟩
  have key : ∀ k, v.ownBlock = some k → k ≠ p ∧ k ≠ t ∧ k ≠ g ∧ ∀ (cs : Array Value) (fr : Nat × Nat), w.heap[k]? ≠ some (.cells cs 32 fr) := by
    intro k hk
    obtain ⟨cur, hcur⟩ := rowH_ty hR hk
    have := h.hnd hcur
    refine ⟨this.1, this.2.1, this.2.2, fun cs fr e => ?_⟩
    rw [hcur] at e
    simp at e
  refine h.chg hc (fun e => (key _ e).1 rfl) (fun e => (key _ e).2.1 rfl) (fun e => (key _ e).2.2.1 rfl) (fun k cs fr hk e => (key _ e).2.2.2 cs fr hk)
end
def hlL (m : Nat) : List Int := (List.range m).map fun i : Nat => mk 3 (i : Int) 1
theorem hlL_succ (m : Nat) : hlL (m + 1) = hlL m ++ [mk 3 (m : Int) 1] := by unfold hlL; rw [List.range_succ, List.map_append]; rfl
theorem hlL_len (m : Nat) : (hlL m).length = m := by simp [hlL]
theorem hlL_at {m r : Nat} (h : r < m) : (hlL m)[r]? = some (mk 3 (r : Int) 1) := by unfold hlL; rw [List.getElem?_map, List.getElem?_range h]; rfl

theorem give_RI {m T p t g cap : Nat} {prio : Int} {xs : List Sk} {w : World} (H : PL w p t g cap (lastF m T) xs) (hI : RI m prio T xs) (hT : T ≤ 800) :
    Calls Try.prog 11 #[.pointer (some ⟨p, 0, none⟩), .int .i64 (T : Int)] w fun e w' => e = .returned (.tuple #[.int .i64 (mk 3 ((T % m : Nat) : Int) 1), .int .i64 0, .int .i64 0, .bool true]) ∧ ∃ ys, PL w' p t g cap (lastF m (T + 1)) ys ∧ RI m prio (T + 1) ys ∧ Chg (fun k => k = g ∨ k = p) w w' := by
  obtain ⟨v, c, hs, hc⟩ := hI.at
  have hpr := hI.pr
  refine (sgive_ok p t g cap (T % m) (lastF m T) (T : Int) 0 0 xs _ _ w H hs (by rw [hI.next]; exact mk3_ne _) (run_TRd (by omega) (by omega) (by omega))).mono ?_
  rintro e w' ⟨v', rfl, hL, hc'⟩
  rw [hI.next]
  refine ⟨rfl, _, ?_, hI.step (v' := v') hc, hc'⟩
  rw [lastF_succ]
  exact hL
theorem wr_small {z : Int} (h : 0 ≤ z ∧ z ≤ 1000000) : wrap64 z = z := by unfold wrap64; omega

set_option maxHeartbeats 600000 in
theorem sround_ok (a0 a1 a2 : Int) (w : World) :
    Calls Try.prog 3 #[.int .i64 a0, .int .i64 a1, .int .i64 a2] w fun e w' => e = .returned (.bool true) ∧ Below w.heap.size w w' := by
  obtain ⟨m0, hm0, hm0b, -, -⟩ := umodI a0 15 (by omega) (by omega)
  obtain ⟨pr, hpr, hprb, -, -⟩ := umodI a1 31 (by omega) (by omega)
  obtain ⟨m, hm⟩ : ∃ m, m = m0 + 1 := ⟨_, rfl⟩
  have hm1 : wrap64 ((m0 : Int) + 1) = (m : Int) := by rw [wr_small (by omega)]; omega
  have hmb : 1 ≤ m ∧ m ≤ 15 := by omega
  obtain ⟨f, hf, hfb, hf1, hf2⟩ := umodI a2 (m : Int) (by omega) (by omega)
  have HF := Lib.hid hf
  clear hf hf2
  have hp1 : wrap64 ((pr : Int) + 1) = (pr : Int) + 1 := wr_small (by omega)
  have h3m : wrap64 (3 * (m : Int)) = 3 * (m : Int) := wr_small (by omega)
  have hm1' := Lib.hid hm1
  have hm0' := Lib.hid hm0
  have hpr' := Lib.hid hpr
  clear hm hm0 hm0b hpr hm1
  go_enter Try.func3, Try.ntmps3
  go_wp2_with fail
  rw [hm0'.out, hpr'.out, hm1'.out]
  refine (snew_ok _).mono ?_
  rintro e w1 ⟨p, t, g, cap, rfl, hL, hp, ht, hg, hb⟩
  have HL0 := Lib.hid hL
  have HB0 := Lib.hid hb
  have HG := Lib.hid hg
  have HP := Lib.hid hp
  clear hL hb hp ht hg
  go_wp2_with fail
  go_loopw [8, 9] (fun l i wr => ∃ (k : Nat) (xs : List Sk), k ≤ m ∧ i = .int .i64 k ∧ Hid (RH wr w.heap.size l (hlL k)) ∧ Hid (CI k (pr : Int) xs) ∧ Hid (PL wr p t g cap (-1) xs) ∧ Hid (Below w.heap.size w wr)) (fun _ i _ => m - (intOf i).toNat)
  case atStart => exact ⟨0, _, Nat.zero_le _, rfl, Lib.hid (Kd.R_nil _ _ _ _ _), Lib.hid (CI.start _), HL0, HB0⟩
  case round =>
    clear HL0 HB0
    obtain ⟨k, xs, hk, rfl, hR, hC, hL, hB⟩ := hrel
    by_cases hlt : k < m
    · obtain ⟨A, cp, rfl⟩ := Kd.R_slice hR.out
      have e0 := hlL_len k
      rw [e0] at hR ⊢
      go_wp2_with fail
      refine (screate_hit p t g cap k (-1) (pr : Int) xs oneSk _ hL.out (by omega) (hC.out.hi k (Nat.le_refl _) (by omega)) ⟨rfl, by decide⟩ hC.out.free).mono ?_
      rintro e w2 ⟨v0, rfl, hL2, hc2⟩
      obtain ⟨hh, hhh⟩ : ∃ y, y = mk 3 ((k : Nat) : Int) oneSk.f0 := ⟨_, rfl⟩
      rw [← hhh]
      have HHH := Lib.hid hhh
      have HL2 := Lib.hid hL2
      have HB2 := Lib.hid (hB.out.trans (chg_base hc2 hB.out.size HG.out))
      have HR2 := Lib.hid (rowH_chg hR.out hc2 (fun q cs hq => (hL.out.hnd hq).2.2))
      have HX2 : Hid ((xs.set k ⟨oneSk.f0, true, v0, ⟨(pr : Int), [], 0, 0, 0, 0, 0, 0⟩⟩)[k]? = some ⟨1, true, v0, T0 (pr : Int)⟩) := Lib.hid (by rw [List.getElem?_set]; simp [hC.out.len]; omega)
      clear hL2 hc2 hR hL hB hhh
      go_wp2_with fail
      refine (spush_ok p t g cap k (-1) hh 0 ⟨1000, 0, 0, 0⟩ _ _ (TRd (pr : Int) 0) _ HL2.out ⟨HX2.out, rfl, HHH.out.symm⟩ (Nat.zero_le _) (push_T0 (p := (pr : Int)) (n := 1000) (by omega) (by omega))).mono ?_
      rintro e w3 ⟨v3, rfl, hL3, hc3⟩
      have HL3 := Lib.hid hL3
      have HB3 := Lib.hid (HB2.out.trans (chg_base hc3 HB2.out.size HG.out))
      have HR3 := Lib.hid (rowH_chg HR2.out hc3 (fun q cs hq => (HL2.out.hnd hq).2.2))
      have HC3 := Lib.hid (hC.out.step (show k < 16 by omega) v0 v3 (T0 (pr : Int)))
      clear hL3 hc3 HL2 HB2 HR2 HX2 hC
      go_wp2_with (first
        | (at_builtin; go_loud (refine Kd.R_append (Kd.int .i64) (w0 := w) w.heap.size rfl (.tmp 52) (.tmp 54) 24 25 (.int .i64 0) 8 rfl Try.underlying24 infoH rfl (by decide) (by omega) _ (hlL k) hh [.int .i64 hh] (fun _ => True) (fun _ => False) rfl rfl rfl (fun _ hk => hk.elim) (fun _ _ => trivial) HR3.out HB3.out (by have := HB3.out.size; omega) (by rw [hlL_len]; omega) ?_); intro v4 w4 hR4 hB4 hg4 hat4)
        | fail)
      have HL4 := Lib.hid (HL3.out.row HR3.out hg4)
      have HR4 : Hid (RH w4 w.heap.size v4 (hlL (k + 1))) := Lib.hid (by rw [hlL_succ]; have := hR4; rw [HHH.out] at this; exact this)
      have HB4 := Lib.hid hB4
      clear hR4 hB4 hg4 hat4 HL3 HB3 HR3
      go_wp2
      go_roundw
      case rel => exact ⟨k + 1, _, by omega, by go_num, HR4, HC3, HL4, HB4⟩
      case measure => simp [intOf]; omega
    · obtain rfl : k = m := by omega
      clear hlt
      obtain ⟨A, cp, rfl⟩ := Kd.R_slice hR.out
      have e0 := hlL_len k
      rw [e0] at hR
      go_wp2_with fail
      refine (screate_hit p t g cap k (-1) ((pr : Int) + 1) xs oneSk _ hL.out (by omega) (hC.out.hi k (Nat.le_refl _) (by omega)) ⟨rfl, by decide⟩ hC.out.free).mono ?_
      rintro e w2 ⟨v0, rfl, hL2, hc2⟩
      obtain ⟨hh, hhh⟩ : ∃ y, y = mk 3 ((k : Nat) : Int) oneSk.f0 := ⟨_, rfl⟩
      rw [← hhh]
      have HHH := Lib.hid hhh
      have HL2 := Lib.hid hL2
      have HB2 := Lib.hid (hB.out.trans (chg_base hc2 hB.out.size HG.out))
      have HR2 := Lib.hid (rowH_chg hR.out hc2 (fun q cs hq => (hL.out.hnd hq).2.2))
      have HX2 : Hid ((xs.set k ⟨oneSk.f0, true, v0, ⟨(pr : Int) + 1, [], 0, 0, 0, 0, 0, 0⟩⟩)[k]? = some ⟨1, true, v0, T0 ((pr : Int) + 1)⟩) := Lib.hid (by rw [List.getElem?_set]; simp [hC.out.len]; omega)
      clear hL2 hc2 hR hL hB hhh
      go_wp2_with fail
      refine (spush_ok p t g cap k (-1) hh 0 ⟨9, 0, 0, 0⟩ _ _ (TBk (pr : Int)) _ HL2.out ⟨HX2.out, rfl, HHH.out.symm⟩ (Nat.zero_le _) (push_T0 (p := (pr : Int) + 1) (n := 9) (by omega) (by omega))).mono ?_
      rintro e w3 ⟨v3, rfl, hL3, hc3⟩
      have HB3 := Lib.hid (HB2.out.trans (chg_base hc3 HB2.out.size HG.out))
      have HR3 := Lib.hid (rowH_chg HR2.out hc3 (fun q cs hq => (HL2.out.hnd hq).2.2))
      have HI3 := Lib.hid (hC.out.done (by omega) (by omega) v0 v3 (T0 ((pr : Int) + 1)))
      have HL3 : Hid (PL w3 p t g cap (lastF k 0) ((xs.set k ⟨1, true, v0, T0 ((pr : Int) + 1)⟩).set k ⟨1, true, v3, TBk (pr : Int)⟩)) := Lib.hid hL3
      generalize (xs.set k ⟨1, true, v0, T0 ((pr : Int) + 1)⟩).set k ⟨1, true, v3, TBk (pr : Int)⟩ = ys at HI3 HL3
      clear hL3 hc3 HL2 HB2 HR2 HX2 hC
      go_wp2_with fail
      rw [HF.out]
      go_loopw [14] (fun i wr => ∃ (T : Nat) (xs : List Sk), T ≤ f ∧ i = .int .i64 T ∧ Hid (RH wr w.heap.size (.slice A k cp) (hlL k)) ∧ Hid (RI k (pr : Int) T xs) ∧ Hid (PL wr p t g cap (lastF k T) xs) ∧ Hid (Below w.heap.size w wr)) (fun i _ => f - (intOf i).toNat)
      case atStart => exact ⟨0, ys, Nat.zero_le _, rfl, HR3, HI3, HL3, HB3⟩
      case round =>
        clear HR3 HI3 HL3 HB3
        obtain ⟨T, xs2, hT, rfl, hR, hI, hL, hB⟩ := hrel
        by_cases hlt : T < f
        · go_wp2_with fail
          refine (give_RI hL.out hI.out (by omega)).mono ?_
          rintro e w5 ⟨rfl, zs, hL5, hI5, hc5⟩
          have HL5 := Lib.hid hL5
          have HI5 := Lib.hid hI5
          have HB5 := Lib.hid (hB.out.trans (hc5.below hB.out.size (fun k e => by have := HG.out; have := HP.out; omega)))
          have HR5 := Lib.hid (rowH_chg hR.out hc5 (fun q cs hq => by have := hL.out.hnd hq; omega))
          clear hL5 hI5 hc5 hR hI hL hB
          go_wp2
          go_roundw
          case rel => exact ⟨T + 1, zs, by omega, by go_num, HR5, HI5, HL5, HB5⟩
          case measure => simp [intOf]; omega
        · obtain rfl : T = f := by omega
          clear hlt
          go_wp2_with fail
          go_loopw [15] (fun i wr => ∃ (j : Nat) (xs : List Sk), j ≤ 3 * k ∧ i = .int .i64 j ∧ Hid (RH wr w.heap.size (.slice A k cp) (hlL k)) ∧ Hid (RI k (pr : Int) (T + j) xs) ∧ Hid (PL wr p t g cap (lastF k (T + j)) xs) ∧ Hid (Below w.heap.size w wr)) (fun i _ => 3 * k - (intOf i).toNat)
          case atStart => exact ⟨0, xs2, Nat.zero_le _, rfl, hR, hI, hL, hB⟩
          case round =>
            clear hR hI hL hB
            obtain ⟨j, xs3, hj, rfl, hR, hI, hL, hB⟩ := hrel
            by_cases hlt : j < 3 * k
            · have zc : ((T + j : Nat) : Int) = (T : Int) + (j : Int) := by omega
              have s1 : wrap64 ((T : Int) + (j : Int)) = (T : Int) + (j : Int) := wr_small (by omega)
              obtain ⟨r, hr⟩ : ∃ r, r = (T + j) % k := ⟨_, rfl⟩
              have s2 : ((T : Int) + (j : Int)).tmod (k : Int) = (r : Int) := by rw [← zc, Int.tmod_eq_emod_of_nonneg (by omega), hr]; rfl
              have s3 : r < k := by rw [hr]; exact Nat.mod_lt (T + j) (show 0 < k by omega)
              have GV := give_RI hL.out hI.out (by omega)
              rw [zc, ← hr] at GV
              obtain ⟨gh, e1, hc⟩ := int_at hR.out (hlL_at s3)
              obtain ⟨h1, hh1⟩ : ∃ y, y = mk 3 (r : Int) 1 := ⟨_, rfl⟩
              rw [← hh1] at GV hc
              subst e1
              have GV := Lib.hid GV
              have HH1 := Lib.hid hh1
              clear hh1 hr zc hc
              go_wp2_with fail
              refine GV.out.mono ?_
              rintro e w5 ⟨rfl, zs, hL5, hI5, hc5⟩
              have HL5 := Lib.hid hL5
              have HI5 := Lib.hid hI5
              have HB5 := Lib.hid (hB.out.trans (hc5.below hB.out.size (fun k e => by have := HG.out; have := HP.out; omega)))
              have HR5 := Lib.hid (rowH_chg hR.out hc5 (fun q cs hq => by have := hL.out.hnd hq; omega))
              obtain ⟨gh5, e5, hc6⟩ := int_at HR5.out (hlL_at s3)
              simp only [Option.some.injEq, Addr.mk.injEq, and_true] at e5
              subst e5
              rw [← HH1.out] at hc6
              clear hL5 hI5 hc5 hR hI hL hB
              go_wp2
              go_roundw
              case rel => exact ⟨j + 1, zs, by omega, by go_num, HR5, HI5, HL5, HB5⟩
              case measure => simp [intOf]; omega
            · obtain rfl : j = 3 * k := by omega
              clear hlt
              go_wp2_with fail
              refine (works14_ok _).mono ?_
              rintro e w6 ⟨rfl, hb6⟩
              have HB6 := Lib.hid (below_call hB.out (Nat.le_refl _) hb6)
              clear hb6
              go_wp2
              go_ret
              exact ⟨rfl, HB6.out⟩

end Go.Proofs.Ytdilediiofenmaa
