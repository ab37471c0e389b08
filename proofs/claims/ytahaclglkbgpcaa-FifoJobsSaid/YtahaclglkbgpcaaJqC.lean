/- The law FifoJobs, by contract. -/
import Derived.Test.YtahaclglkbgpcaaJqB
import Derived.Test.YtahaclglkbgpcaaFqW
set_option linter.unusedVariables false
set_option linter.unusedSimpArgs false
namespace Go.Proofs.Ytahaclglkbgpcaa
open Go.RowKit
open Go.Proofs.YtahaclglkbgpcaaW.PrintWords (Kd Drawn0 Kept rd rdOf)
open Go.Proofs.Ytahaclglkbgpcaa.PFifoJobs
set_option maxRecDepth 100000

/-- The job's cells at a place of a row. -/
def JAt (w : World) (b o i : Nat) (x : Jb) : Prop :=
  w.cell? ⟨b, o + i * 4, none⟩ = some (.int .i64 x.f0) ∧ w.cell? ⟨b, o + i * 4 + 1, none⟩ = some (.int .i64 x.f1) ∧ w.cell? ⟨b, o + i * 4 + 2, none⟩ = some (.int .i64 x.f2) ∧ w.cell? ⟨b, o + i * 4 + 3, none⟩ = some (.int .i64 x.f3)
theorem jobs_of {w : World} {b o : Nat} : ∀ n : Nat, (∀ i, i < n → ∃ x0 x1 x2 x3 : Int, w.cell? ⟨b, o + i * 4, none⟩ = some (.int .i64 x0) ∧ w.cell? ⟨b, o + i * 4 + 1, none⟩ = some (.int .i64 x1) ∧ w.cell? ⟨b, o + i * 4 + 2, none⟩ = some (.int .i64 x2) ∧ w.cell? ⟨b, o + i * 4 + 3, none⟩ = some (.int .i64 x3)) →
    ∃ js : List Jb, js.length = n ∧ ∀ i x, js[i]? = some x → JAt w b o i x
  | 0, _ => ⟨[], rfl, fun i x h => by simp at h⟩
  | n + 1, h => by
    obtain ⟨js, h1, h2⟩ := jobs_of n (fun i hi => h i (by omega))
    obtain ⟨x0, x1, x2, x3, c0, c1, c2, c3⟩ := h n (by omega)
    refine ⟨js ++ [⟨x0, x1, x2, x3⟩], by simp [h1], ?_⟩
    intro i x hx
    rcases Nat.lt_or_ge i n with hi | hi
    · rw [List.getElem?_append_left (by omega)] at hx
      exact h2 i x hx
    · rw [List.getElem?_append_right (by omega)] at hx
      have hi2 : i - js.length = 0 := by
        have := (List.getElem?_eq_some_iff.1 hx).1
        simp at this
        omega
      rw [hi2] at hx
      simp at hx
      obtain rfl : i = n := by omega
      subst hx
      exact ⟨c0, c1, c2, c3⟩

/-- What the loop holds. -/
structure FJ (w W : World) (q p lb : Nat) (least : Int) (js ks : List Jb) (S1 S2 : Nat → Prop) : Prop where
  jq : JS W q 50 js S1
  jp : JS W p 50 ks S2
  dis : ∀ k, S1 k → ¬ S2 k
  s1 : ∀ k, S1 k → lb < k
  s2 : ∀ k, S2 k → lb < k
  vl : VI W lb least
  be : Below w.heap.size w W
section
variable {w W W' : World} {q p lb : Nat} {least : Int} {js ks ms : List Jb} {S1 S2 : Nat → Prop}
theorem FJ.below (h : FJ w W q p lb least js ks S1 S2) (hb : Below W.heap.size W W') : FJ w W' q p lb least js ks S1 S2 :=
  ⟨h.jq.below hb, h.jp.below hb, h.dis, h.s1, h.s2, h.vl.chg (Chg.ofBelow hb (fun _ => False)) (fun f => f), below_call h.be (Nat.le_refl _) hb⟩
theorem FJ.push1 (h : FJ w W q p lb least js ks S1 S2) (hw : w.heap.size ≤ lb) (hq : JS W' q 50 ms (Aft S1 W W')) (hc : Chg S1 W W') : FJ w W' q p lb least ms ks (Aft S1 W W') S2 := by
  have hl := h.vl.lt
  refine ⟨hq, h.jp.chg hc h.dis, ?_, ?_, h.s2, h.vl.chg hc (fun s => by have := h.s1 _ s; omega), h.be.trans (hc.below h.be.size (fun k s => by have := h.s1 k s; omega))⟩
  · rintro k (s | s) s2
    · exact h.dis k s s2
    · have := h.jp.1.2 k s2; omega
  · rintro k (s | s)
    · exact h.s1 k s
    · omega
theorem FJ.push2 (h : FJ w W q p lb least js ks S1 S2) (hw : w.heap.size ≤ lb) (hq : JS W' p 50 ms (Aft S2 W W')) (hc : Chg S2 W W') : FJ w W' q p lb least js ms S1 (Aft S2 W W') := by
  have hl := h.vl.lt
  refine ⟨h.jq.chg hc (fun k s2 s1 => h.dis k s1 s2), hq, ?_, h.s1, ?_, h.vl.chg hc (fun s => by have := h.s2 _ s; omega), h.be.trans (hc.below h.be.size (fun k s => by have := h.s2 k s; omega))⟩
  · rintro k s1 (s | s)
    · exact h.dis k s1 s
    · have := h.jq.1.2 k s1; omega
  · rintro k (s | s)
    · exact h.s2 k s
    · omega
end

set_option maxHeartbeats 8000000 in
theorem fjobs_ok (al : Option Addr) (len lcap : Nat) (least : Int) (w : World) (hm : len ≤ maxLen)
    (hc : len = 0 ∨ ∃ b o, al = some ⟨b, o, none⟩ ∧ ∀ i, i < len → ∃ x0 x1 x2 x3 : Int, w.cell? ⟨b, o + i * 4, none⟩ = some (.int .i64 x0) ∧ w.cell? ⟨b, o + i * 4 + 1, none⟩ = some (.int .i64 x1) ∧ w.cell? ⟨b, o + i * 4 + 2, none⟩ = some (.int .i64 x2) ∧ w.cell? ⟨b, o + i * 4 + 3, none⟩ = some (.int .i64 x3)) :
    Calls Try.prog 5 #[.slice al len lcap, .int .i64 least] w fun e w' => e = .returned (.bool true) ∧ Below w.heap.size w w' := by
  unfold maxLen at hm
  by_cases h50 : 50 < len
  · have t1 : decide ((50 : Int) < len) = true := decide_eq_true (by omega)
    have t2 : decide (50 < len) = true := decide_eq_true h50
    have hb0 := (Below.refl w.heap.size w).alloc (Nat.le_refl _) (.cells #[.int .i64 least] 3)
    have HB0 := Lib.hid hb0
    clear hc hb0
    go_enter Try.func5, Try.ntmps5
    go_wp2_with fail
    refine (works_ok _).mono ?_
    rintro e w1 ⟨rfl, hb⟩
    go_wp2
    go_ret
    exact ⟨rfl, below_call HB0.out (Nat.le_refl _) hb⟩
  · obtain ⟨js, hjl, hja⟩ : ∃ js : List Jb, js.length = len ∧ ∀ i x, js[i]? = some x → ∃ b o, al = some ⟨b, o, none⟩ ∧ JAt w b o i x := by
      rcases hc with rfl | ⟨b, o, e, h⟩
      · exact ⟨[], rfl, fun i x h => by simp at h⟩
      · obtain ⟨js, h1, h2⟩ := jobs_of len h
        exact ⟨js, h1, fun i x hx => ⟨b, o, e, h2 i x hx⟩⟩
    have HJL := Lib.hid hjl
    have HJA := Lib.hid hja
    have hl50 : len ≤ 50 := by omega
    have t1 : decide ((50 : Int) < len) = false := decide_eq_false (by omega)
    have t2 : decide (50 < len) = false := decide_eq_false h50
    obtain ⟨lb, hlb⟩ : ∃ lb, lb = w.heap.size := ⟨_, rfl⟩
    obtain ⟨W0, hW0⟩ : ∃ y, y = w.alloc (.cells #[.int .i64 least] 3) := ⟨_, rfl⟩
    have hvl : VI W0 lb least := by rw [hW0, hlb]; exact heap_alloc_new w _
    have hb0 : Below w.heap.size w W0 := by rw [hW0]; exact (Below.refl w.heap.size w).alloc (Nat.le_refl _) _
    have HVL := Lib.hid hvl
    have HB0 := Lib.hid hb0
    have HW0 := Lib.hid hW0
    have HLB := Lib.hid hlb
    have hlbw : w.heap.size ≤ lb := by omega
    clear hc hjl hja hvl hb0 hW0 hlb h50
    go_enter Try.func5, Try.ntmps5
    go_wp2_with fail
    rw [← HW0.out, ← HLB.out]
    refine (jnew_ok 50 W0 (by omega) (by omega)).mono ?_
    rintro e w1 ⟨rfl, hN1, hb1⟩
    obtain ⟨q, hq⟩ : ∃ q, q = W0.heap.size := ⟨_, rfl⟩
    rw [← hq] at hN1 hb1 ⊢
    have HN1 := Lib.hid hN1
    have HB1 := Lib.hid hb1
    have HQ := Lib.hid hq
    clear hN1 hb1 hq
    go_wp2_with fail
    refine (jnew_ok 50 w1 (by omega) (by omega)).mono ?_
    rintro e w2 ⟨rfl, hN2, hb2⟩
    obtain ⟨p, hp⟩ : ∃ p, p = w1.heap.size := ⟨_, rfl⟩
    rw [← hp] at hN2 hb2 ⊢
    obtain ⟨P, hP⟩ : ∃ P : Jb → Bool, P = fun x => decide (least ≤ x.f0) := ⟨_, rfl⟩
    have HP := Lib.hid hP
    have HI : Hid (∃ S1 S2, FJ w w2 q p lb least [] [] S1 S2) := by
      have hq1 := HN1.out.lt
      have hp2 := hN2.lt
      have hvl := HVL.out.lt
      have hb1 := HB1.out
      have hb1' := hb1
      have hb2' := hb2
      rw [HQ.out] at hb1'
      rw [hp] at hb2'
      have k0 := HQ.out
      have s2 := hb2.size
      exact Lib.hid ⟨fun k => k = q, fun k => k = p, ⟨⟨rfl, fun k e => by omega⟩, .inl ⟨rfl, HN1.out.below hb2'⟩⟩, ⟨⟨rfl, fun k e => by omega⟩, .inl ⟨rfl, hN2⟩⟩, fun k e1 e2 => by have : k = q := e1; have : k = p := e2; omega, fun k e => by have : k = q := e; omega, fun k e => by have : k = p := e; omega,
        (HVL.out.chg (Chg.ofBelow hb1' (fun _ => False)) (fun f => f)).chg (Chg.ofBelow hb2' (fun _ => False)) (fun f => f), below_call (below_call HB0.out (Nat.le_refl _) hb1') (Nat.le_refl _) hb2'⟩
    clear hN2 hb2 hp hP HN1 HB1 HQ HVL HB0 HW0
    go_wp2_with fail
    go_loopw [9, 10] (fun m i wr => ∃ k : Nat, k ≤ len ∧ i = .int .i64 k ∧ ∃ mm : Nat, m = .int .i64 mm ∧ mm ≤ k ∧ Hid (mm = ((js.take k).filter P).length) ∧ Hid (∃ S1 S2, FJ w wr q p lb least (js.take k) ((js.take k).filter P) S1 S2)) (fun _ i _ => len - (intOf i).toNat)
    case atStart => exact ⟨0, Nat.zero_le _, rfl, 0, rfl, Nat.le_refl _, Lib.hid (by simp), Lib.hid (by simpa using HI.out)⟩
    case round =>
      clear HI
      obtain ⟨k, hk, rfl, mm, rfl, hmk, hmm, hF⟩ := hrel
      obtain ⟨S1, S2, hF⟩ := hF.out
      have HF := Lib.hid hF
      by_cases hlt : k < len
      · obtain ⟨x, hx⟩ : ∃ x, js[k]? = some x := ⟨_, List.getElem?_eq_getElem (by have := HJL.out; omega)⟩
        obtain ⟨b, o, rfl, y0, y1, y2, y3⟩ := HJA.out k x hx
        have HY := Lib.hid (show JAt w b o k x from ⟨y0, y1, y2, y3⟩)
        replace y0 := keep hF.be y0
        replace y1 := keep hF.be y1
        replace y2 := keep hF.be y2
        replace y3 := keep hF.be y3
        have HTS := Lib.hid (show js.take (k + 1) = js.take k ++ [x] by rw [List.take_add_one, hx]; rfl)
        have HPU := Lib.hid (jpush_ok q 50 (js.take k) S1 x wr hF.jq (by simp; omega))
        clear hF hx
        go_wp2_with fail
        refine HPU.out.mono ?_
        rintro e w5 ⟨rfl, hq5, hc5⟩
        have HF5 := Lib.hid (HF.out.push1 hlbw hq5 hc5)
        clear hq5 hc5 HPU HF y0 y1 y2 y3
        have y0 := keep HF5.out.be HY.out.1
        have l0 := HF5.out.vl.c
        by_cases hpx : least ≤ x.f0
        · have t3 : decide (least ≤ x.f0) = true := decide_eq_true hpx
          go_wp2_with fail
          go_quiet (fail)
          obtain ⟨w6, hw6⟩ : ∃ y, y = w5.drewN nq := ⟨_, rfl⟩
          rw [← hw6]
          have HF6 := Lib.hid (HF5.out.below (show Below w5.heap.size w5 w6 by rw [hw6]; exact below_drewN' (Below.refl _ _) _))
          clear y0 l0 hw6 HF5
          have y0 := keep HF6.out.be HY.out.1
          have y1 := keep HF6.out.be HY.out.2.1
          have y2 := keep HF6.out.be HY.out.2.2.1
          have y3 := keep HF6.out.be HY.out.2.2.2
          have HFL := Lib.hid (show (js.take (k + 1)).filter P = (js.take k).filter P ++ [x] by rw [HTS.out, List.filter_append]; congr 1; simp [HP.out, hpx])
          have HPU := Lib.hid (jpush_ok p 50 ((js.take k).filter P) _ x w6 HF6.out.jp (by have := hmm.out; omega))
          go_wp2_with fail
          refine HPU.out.mono ?_
          rintro e w7 ⟨rfl, hq7, hc7⟩
          have HF7 := Lib.hid (HF6.out.push2 hlbw hq7 hc7)
          clear hq7 hc7 HPU HF6 y0 y1 y2 y3
          go_wp2
          go_roundw
          case rel => exact ⟨k + 1, by omega, by go_num, mm + 1, by go_num, by omega, Lib.hid (by rw [HFL.out]; simp; exact hmm.out), Lib.hid (by rw [HFL.out, HTS.out]; exact ⟨_, _, HF7.out⟩)⟩
          case measure => simp [intOf]; omega
        · have t3 : decide (least ≤ x.f0) = false := decide_eq_false hpx
          go_wp2_with fail
          go_quiet (fail)
          obtain ⟨w6, hw6⟩ : ∃ y, y = w5.drewN nq := ⟨_, rfl⟩
          rw [← hw6]
          have HF6 := Lib.hid (HF5.out.below (show Below w5.heap.size w5 w6 by rw [hw6]; exact below_drewN' (Below.refl _ _) _))
          clear y0 l0 hw6 HF5
          have y0 := keep HF6.out.be HY.out.1
          have y1 := keep HF6.out.be HY.out.2.1
          have y2 := keep HF6.out.be HY.out.2.2.1
          have y3 := keep HF6.out.be HY.out.2.2.2
          have HFL := Lib.hid (show (js.take (k + 1)).filter P = (js.take k).filter P by rw [HTS.out, List.filter_append]; simp [HP.out]; omega)
          clear y0 y1 y2 y3
          go_wp2
          go_roundw
          case rel => exact ⟨k + 1, by omega, by go_num, mm, rfl, by omega, Lib.hid (by rw [HFL.out]; exact hmm.out), Lib.hid (by rw [HFL.out, HTS.out]; exact ⟨_, _, HF6.out⟩)⟩
          case measure => simp [intOf]; omega
      · obtain rfl : k = len := by omega
        have htk : js.take k = js := by have := HJL.out; rw [List.take_of_length_le (by omega)]
        rw [htk] at hF hmm
        have HMM := Lib.hid hmm.out
        obtain ⟨ab, hab⟩ : ∃ ab, ab = wr.heap.size := ⟨_, rfl⟩
        obtain ⟨W1, hW1⟩ : ∃ y, y = wr.alloc (.cells #[.int .i64 0] 3) := ⟨_, rfl⟩
        have hva : VI W1 ab ((0 : Nat) : Int) := by rw [hW1, hab]; exact heap_alloc_new wr _
        have hbw : Below wr.heap.size wr W1 := by rw [hW1]; exact (Below.refl wr.heap.size wr).alloc (Nat.le_refl _) _
        have F1 := hF.below hbw
        have hlw := hF.vl.lt
        have hab1 : ab < W1.heap.size := hva.lt
        have haS : ¬ S1 ab := fun s => by have := hF.jq.1.2 ab s; omega
        have haS2 : ¬ S2 ab := fun s => by have := hF.jp.1.2 ab s; omega
        have hlS : ¬ S1 lb := fun s => by have := hF.s1 lb s; omega
        have hne : ab ≠ lb := by omega
        have hjk := HJL.out
        have K0 := jkeep_ok (w := W1) (q := q) (lim := 50) (ab := ab) (xs := js) (S := S1) P (.pointer (some ⟨ab, 0, none⟩)) (.pointer (some ⟨lb, 0, none⟩)) (fun c W => VI W ab (c : Int) ∧ VI W lb least)
          (fun c W W' h hc => ⟨h.1.chg hc (fun s => s.elim haS (fun s => by omega)), h.2.chg hc (fun s => s.elim hlS (fun s => by omega))⟩)
          (fun c x W hcl h => by
            have := jclo_ok x ab lb (c : Int) least W h.1 h.2 hne (by omega) (by omega)
            rw [HP.out]
            exact this.mono (fun e W' ⟨k1, k2, k3⟩ => ⟨k1, ⟨by push_cast; exact k2.1, k2.2⟩, k3⟩))
          hab1 haS ⟨hva, F1.vl⟩ F1.jq
        have e1 : (((js.length - (js.filter P).length : Nat)) : Int) = (k : Int) - (mm : Int) := by rw [← HMM.out, hjk]; omega
        rw [e1] at K0
        have HK := Lib.hid K0
        have HF1 := Lib.hid F1
        have HW1 := Lib.hid hW1
        have HAB := Lib.hid hab
        have HS2 := Lib.hid haS2
        have HBW := Lib.hid hbw
        clear htk hF hmm hab hW1 hva hbw F1 haS haS2 hlS K0 e1 hjk HF
        go_wp2_with fail
        rw [← HW1.out, ← HAB.out]
        refine HK.out.mono ?_
        rintro e w7 ⟨rfl, hq7, ⟨ha7, hl7⟩, hc7⟩
        have hjp7 := HF1.out.jp.chg hc7 (fun b s s2 => s.elim (fun s => HF1.out.dis b s s2) (fun e => by have e' : b = ab := e; rw [e'] at s2; exact HS2.out s2))
        rw [HJL.out] at ha7
        have a0 := ha7.c
        have hbe7 := HF1.out.be.trans (hc7.below HF1.out.be.size (fun b s => s.elim (fun s => by have := HF1.out.s1 b s; omega) (fun e => by have e' : b = ab := e; have := HAB.out; have := HF1.out.be.size; omega)))
        have hjs := jsame_ok q p 50 (js.filter P) (js.filter P) w7 (hq7.jz (fun b s h => by have := hq7.1.2 b s; have h' : w7.heap.size ≤ b := h; omega)) (hjp7.jz (fun b s h => by have := hjp7.1.2 b s; have h' : w7.heap.size ≤ b := h; omega)) rfl
        have hjs2 : Calls Try.prog 26 #[.pointer (some ⟨q, 0, none⟩), .pointer (some ⟨p, 0, none⟩)] w7 fun e w' => e = .returned (.bool true) ∧ Below w7.heap.size w7 w' := hjs.mono (fun e w' h => ⟨by rw [h.1]; simp, h.2⟩)
        have HSA := Lib.hid hjs2
        clear hjs hjs2
        have HB7 := Lib.hid hbe7
        clear hq7 ha7 hl7 hc7 hjp7 hbe7 HK
        go_wp2_with fail
        refine HSA.out.mono ?_
        rintro e w8 ⟨rfl, hb8⟩
        have HB8 := Lib.hid (below_call HB7.out (Nat.le_refl _) hb8)
        clear hb8 HSA a0
        go_wp2_with fail
        refine (works_ok w8).mono ?_
        rintro e w9 ⟨rfl, hb9⟩
        have HB9 := Lib.hid (below_call HB8.out (Nat.le_refl _) hb9)
        clear hb9
        go_wp2
        go_ret
        exact ⟨rfl, HB9.out⟩

end Go.Proofs.Ytahaclglkbgpcaa
