/- The law SlotsTwins, by contract. Printed by gen_sl_twins.py (this repo's). -/
import Derived.Test.YtgjlkplieoajlaaDoorStN
set_option linter.unusedVariables false
set_option linter.unusedSimpArgs false
namespace Go.Proofs.YtgjlkplieoajlaaDoor
open Go.RowKit
open Go.Proofs.YtgjlkplieoajlaaDoorW.PrintWords (Kd Drawn0 Kept rd rdOf)
open Go.Proofs.YtgjlkplieoajlaaDoor.PSlotsTwins
set_option maxRecDepth 100000

set_option maxHeartbeats 30000000 in
theorem twins_short (n : Nat) (n0 : 1 ≤ (n : Int)) (n1 : (n : Int) ≤ 4096) (al : Option Addr) (len lcap : Nat) (am : Option Addr) (mlen mcap : Nat) (w : World) (hm : len ≤ maxLen) (hc : OpsAt w al len) (hm2 : mlen ≤ maxLen) (hc2 : OpsAt w am mlen) (hL : Laid w) (hlen : len ≤ 100) :
    Calls Tryd.prog 7 #[.int .i64 (n : Int), .slice al len lcap, .slice am mlen mcap] w fun e w' => e = .returned (.bool true) ∧ Below w.heap.size w w' := by
  unfold maxLen at hm hm2
  have HCC := Lib.hid hc
  have HMC := Lib.hid hc2
  have HL := Lib.hid hL
  have HE := Laid.lt hL
  clear hc hc2 hL
  · skip
    go_enter Tryd.func7, Tryd.ntmps7
    go_wp2_with fail
    refine (snew_ok 2 n w (by omega) (by omega) (by omega) (by omega)).mono ?_
    rintro e w1 ⟨t, g, cap, rfl, hT, ht, hg, hb⟩
    have htl := hT.lt
    have hgl := hT.ltg
    have HT := Lib.hid hT
    have HB := Lib.hid hb
    have HL1 := Lib.hid (HL.out.below hb)
    clear hT hb HL
    go_wp2_with fail
    refine (rnew_c 2 n w1 (by omega) (by omega) (by omega) (by omega)).mono ?_
    rintro e w2 ⟨B1, d1, B2, d2, B3, d3, rfl, hR, hb2⟩
    have HI : Hid (∃ R, M1 w (w2.alloc (.cells #[.int .i64 2, .slice B1 n d1, .slice B2 n d2, .slice B3 n d3] 30)) w1.heap.size n t g cap w2.heap.size R R) := by
      have b3 := (Below.refl w2.heap.size w2).alloc (Nat.le_refl _) (.cells #[.int .i64 2, .slice B1 n d1, .slice B2 n d2, .slice B3 n d3] 30)
      exact Lib.hid ⟨⟨B1, d1, B2, d2, B3, d3⟩, ⟨_, (HT.out.below hb2).below b3, Tk.one (by omega) (by omega) (by omega) (by omega), hR.below b3⟩, VarT.new w2 n 2 _ _ _ _ _ _, (HL1.out.below hb2).below b3, below_call (below_call HB.out (Nat.le_refl _) hb2) (Nat.le_refl _) b3⟩
    have hs2 := hb2.size
    have HBw1 := HB.out.size
    clear hR hb2 HT HB HL1
    go_wp2_with fail
    generalize (w2.alloc (.cells #[.int .i64 2, .slice B1 n d1, .slice B2 n d2, .slice B3 n d3] 30)) = w3 at HI ⊢
    generalize w2.heap.size = rb at hs2 HI ⊢
    go_loopw [11] (fun i wr => ∃ k : Nat, k ≤ len ∧ k ≤ 100 ∧ i = .int .i64 k ∧ Hid (∃ R, M1 w wr w1.heap.size n t g cap rb R R)) (fun i _ => len - (intOf i).toNat)
    case atStart => exact ⟨0, Nat.zero_le _, Nat.zero_le _, rfl, HI⟩
    case round =>
      clear HI
      obtain ⟨k, hk, hk4, rfl, hI⟩ := hrel
      obtain ⟨R, hM⟩ := hI.out
      have HM := Lib.hid hM
      obtain ⟨r0, r1, r2, r3⟩ := VarT.c hM.v
      clear hM hI
      by_cases hlt : k < len ∧ k < 100
      · obtain ⟨hl1, hl2⟩ := hlt
        rcases HCC.out with h0 | ⟨lb, lo, rfl, hcells⟩
        · omega
        obtain ⟨kd, h, v, q0, q1, q2⟩ := hcells k hl1
        replace q0 := keep HM.out.be q0
        replace q1 := keep HM.out.be q1
        replace q2 := keep HM.out.be q2
        have HST := Lib.hid (fun W (hb : Below wr.heap.size wr W) => stepw (HM.out.q.below hb) kd h v (by omega) (HM.out.la.below hb))
        clear hcells
        go_wp2_with fail
        go_region_with (first
          | (go_at_call 19; refine (HST.out _ (by first | exact Below.refl _ _ | exact Below.drew (Below.refl _ _))).mono ?_; rintro e w5 ⟨Q, rfl, hQ5, hc5⟩; (try dsimp only); have C5 : Chg (fun k => k = g) wr w5 := Chg.trans (by repeat (first | exact Chg.refl _ _ | refine Chg.alloc ?_ _ | refine Chg.drew ?_)) hc5; have J5 := Lib.hid (HM.out.step C5 hQ5 (by omega) (by omega) (by omega)); obtain ⟨s0, s1, s2, s3⟩ := VarT.c J5.out.v; have g0 := VarT.f J5.out.v 0; have g1 := VarT.f J5.out.v 1; have g2 := VarT.f J5.out.v 2; have g3 := VarT.f J5.out.v 3; clear hQ5 hc5 C5)
          | fail)
        all_goals
          go_wp2
          go_roundw
          case rel => exact ⟨k + 1, by omega, by omega, by go_num, Lib.hid ⟨Q, J5.out.put Q (by omega) (by omega) (by omega) (by omega)⟩⟩
          case measure => simp [intOf]; omega
      · have HM2 : Hid (∃ xs, N2 w wr w1.heap.size n t g cap rb xs R) := by
          obtain ⟨xs, h1, h2, h3⟩ := HM.out.q
          exact Lib.hid ⟨xs, h1, h2, h3, HM.out.v, HM.out.la, HM.out.be⟩
        obtain ⟨xs, hN⟩ := HM2.out
        have HN := Lib.hid hN
        have hrb := HM.out.v.lt
        have HD := Lib.hid hlt
        clear hN HM2 HM HCC r0 r1 r2 r3 hlt
        have u1 : decide (k < len) = false := decide_eq_false (by have := HD.out; omega)
        go_wp2_with fail
        clear u1
        refine (tclone_ok t g n cap 2 xs wr HN.out.tb HN.out.tk).mono ?_
        rintro e w4 ⟨t2, g2, cap2, rfl, hT2, ht2, hg2, hb4⟩
        have hw4 := hb4.size
        have HN4 := Lib.hid (HN.out.below hb4)
        have HT4 := Lib.hid hT2
        have ht2l := hT2.lt
        have hg2l := hT2.ltg
        clear hT2 hb4 HN
        go_wp2_with fail
        refine (slots_ok t g n cap 2 xs w4 HN4.out.tb HN4.out.tk).mono ?_
        rintro e w5 ⟨v, u, rfl, hv5, hu5, hb5⟩
        have hw5 := hb5.size
        obtain ⟨Ag, cg, rfl⟩ := Kd.R_slice hv5
        obtain ⟨At, ct, rfl⟩ := Kd.R_slice hu5
        have hlx := HN4.out.tk.len
        have eg : (xs.map (·.f0)).length = n := by simpa using hlx
        have et : (xs.map (·.f1)).length = n := by simpa using hlx
        have HG5 := Lib.hid (Kd.R_reads' hv5)
        have HK5 := Lib.hid (Kd.R_reads' hu5)
        rw [eg, et]
        rw [eg] at HG5
        rw [et] at HK5
        have HN5 := Lib.hid (HN4.out.below hb5)
        have HT5 := Lib.hid (HT4.out.below hb5)
        clear hv5 hu5 HN4 HT4 hb5
        go_wp2_with fail
        refine (all_ok t g n cap 2 xs w5 HN5.out.tb HN5.out.tk).mono ?_
        rintro e w6 ⟨v, rfl, hv6, hb6⟩
        have hw6 := hb6.size
        obtain ⟨Aa, ca, rfl⟩ := Kd.R_slice hv6
        obtain ⟨p, hp⟩ : ∃ p, p = (allH 2 xs).length := ⟨_, rfl⟩
        have HA6 := Lib.hid (Kd.R_reads' hv6).2.2
        rw [← hp] at HA6 ⊢
        have HG6 := Lib.hid (⟨HG5.out.2.1, Kd.C_below HG5.out.2.2 hb6⟩ : n ≤ cg ∧ _)
        have HK6 := Lib.hid (⟨HK5.out.2.1, Kd.C_below HK5.out.2.2 hb6⟩ : n ≤ ct ∧ _)
        have HN6 := Lib.hid (HN5.out.below hb6)
        have HT6 := Lib.hid (HT5.out.below hb6)
        have hple : p ≤ 4096 := by rw [hp]; exact allH_le HN5.out.tk
        have hpt : (thF xs).length = p := by rw [hp]; exact (all_len HN5.out.tk).symm
        have HP := Lib.hid hp
        have HPT := Lib.hid hpt
        clear hp hpt
        clear hv6 hb6 HG5 HK5 HN5 HT5
        go_wp2_with fail
        go_loopw [15, 17] (fun v i wq => ∃ j : Nat, j ≤ p ∧ i = .int .i64 j ∧ Hid ((Kd.int .i64).R 3 wq w6.heap.size (fun _ => True) v ((thF xs).take j)) ∧ Hid (Below w6.heap.size w6 wq)) (fun _ i _ => p - (intOf i).toNat)
        case atStart => exact ⟨0, Nat.zero_le _, rfl, Lib.hid (Kd.R_nil _ _ _ _ _), Lib.hid (Below.refl _ _)⟩
        case round =>
          obtain ⟨j, hj, rfl, hRj, hBj⟩ := hrel
          by_cases hlt2 : j < p
          · obtain ⟨hd, hh⟩ : ∃ hd, (allH 2 xs)[j]? = some hd := ⟨_, List.getElem?_eq_getElem (by have := HP.out; omega)⟩
            obtain ⟨i, x, hat, hth⟩ := all_at hh
            obtain ⟨ad, rfl, hcell⟩ := cell_int (Kd.C_below HA6.out hBj.out) hlt2
            have eh : (allH 2 xs).getD j 0 = hd := by simp [List.getD, hh]
            rw [eh] at hcell
            have HTH := Lib.hid (take_snoc' (thF xs) j x.f2 hth)
            have hlj : ((thF xs).take j).length = j := by have := HPT.out; simp; omega
            clear hh hth eh
            go_wp2_with fail
            refine (get_hit t g n cap i 2 hd xs x _ (HN6.out.tb.below hBj.out) HN6.out.tk hat).mono ?_
            rintro e w8 ⟨rfl, m, hw⟩
            have HB8 := Lib.hid (show Below w6.heap.size w6 w8 by rw [hw]; exact below_drewN' hBj.out m)
            have HR8 := Lib.hid (show (Kd.int .i64).R 3 w8 w6.heap.size (fun _ => True) u15 ((thF xs).take j) by rw [hw]; exact Kd.R_drewN hRj.out m)
            clear hw hRj hBj hat
            go_wp2_with (first
              | (at_builtin; refine Kd.R_append (Kd.int .i64) (w0 := w6) w6.heap.size rfl (.tmp 100) (.tmp 102) 27 3 (.int .i64 0) 8 rfl Tryd.underlying27 info3 rfl (by decide) (by omega) _ ((thF xs).take j) x.f2 [.int .i64 x.f2] (fun _ => True) (fun _ => False) rfl rfl rfl (fun _ hk => hk.elim) (fun _ _ => trivial) HR8.out HB8.out HB8.out.size (by omega) ?_; intro v1 w9 hR1 hB1 hg1 hat1)
              | fail)
            have HR9 := Lib.hid (show (Kd.int .i64).R 3 w9 w6.heap.size (fun _ => True) v1 ((thF xs).take (j + 1)) by rw [HTH.out]; exact hR1)
            have HB9 := Lib.hid hB1
            clear hR1 hB1 hg1 hat1 HR8 HB8
            go_wp2
            go_roundw
            case rel => exact ⟨j + 1, by omega, by go_num, HR9, HB9⟩
            case measure => simp [intOf]; omega
          · obtain rfl : j = p := by omega
            have hRj' := hRj.out
            rw [List.take_of_length_le (by have := HPT.out; omega)] at hRj'
            obtain ⟨Ah, ch, rfl⟩ := Kd.R_slice hRj'
            have HH := Lib.hid (Kd.R_reads' hRj')
            rw [HPT.out] at HH ⊢
            have HLD := Lib.hid (show LdA wr Ag n cg At n ct Ah j ch (xs.map (·.f0)) (xs.map (·.f1)) (thF xs) from ⟨Kd.C_below HG6.out.2 hBj.out, HG6.out.1, Kd.C_below HK6.out.2 hBj.out, HK6.out.1, HH.out.2.2, HH.out.2.1⟩)
            have HN7 := Lib.hid (HN6.out.below hBj.out)
            have HT7 := Lib.hid (HT6.out.below hBj.out)
            have hwq := hBj.out.size
            clear hRj hRj' HH HG6 HK6 HN6 HT6 hBj HA6
            go_wp2_with fail
            refine (sload_any 2 (by omega) (by omega) (by omega) (by omega) HLD.out).mono ?_
            rintro e w8 hpost
            rcases hpost with ⟨-, -, t3, g3, cap3, rfl, hT3, ht3, hg3, hb8⟩ | ⟨hno, -⟩
            case inr => exact absurd ⟨ok_same HN7.out.tk, (cnt_same HN7.out.tk.len).trans HPT.out⟩ hno
            rw [load_same HN7.out.tk] at hT3
            have HN8 := Lib.hid (HN7.out.below hb8)
            have HT8 := Lib.hid (HT7.out.below hb8)
            have HU8 := Lib.hid hT3
            have hw8 := hb8.size
            have ht3l := hT3.lt
            have hg3l := hT3.ltg
            clear hT3 hb8 HN7 HT7 HLD
            obtain ⟨r0, r1, r2, r3⟩ := VarT.c HN8.out.v
            have hrb8 := HN8.out.v.lt
            go_wp2_with fail
            have hv2 : VTw (World.drew ((w8.alloc (.cells #[.int .i64 2, .slice R.A1 n R.c1, .slice R.A2 n R.c2, .slice R.A3 n R.c3] 30)).alloc (.cells #[.int .i64 2, .slice R.A1 n R.c1, .slice R.A2 n R.c2, .slice R.A3 n R.c3] 30))) w8.heap.size n R := ((VarT.new w8 n 2 R.A1 R.c1 R.A2 R.c2 R.A3 R.c3).below ((Below.refl _ _).alloc (Nat.le_refl _) _)).below (Below.drew (Below.refl _ _))
            have hv3 : VTw (World.drew ((w8.alloc (.cells #[.int .i64 2, .slice R.A1 n R.c1, .slice R.A2 n R.c2, .slice R.A3 n R.c3] 30)).alloc (.cells #[.int .i64 2, .slice R.A1 n R.c1, .slice R.A2 n R.c2, .slice R.A3 n R.c3] 30))) (w8.heap.size + 1) n R := by
              have h := VarT.new (w8.alloc (.cells #[.int .i64 2, .slice R.A1 n R.c1, .slice R.A2 n R.c2, .slice R.A3 n R.c3] 30)) n 2 R.A1 R.c1 R.A2 R.c2 R.A3 R.c3
              rw [show (w8.alloc (.cells #[.int .i64 2, .slice R.A1 n R.c1, .slice R.A2 n R.c2, .slice R.A3 n R.c3] 30)).heap.size = w8.heap.size + 1 by simp] at h
              exact h.below (Below.drew (Below.refl _ _))
            have hbw : Below w8.heap.size w8 (World.drew ((w8.alloc (.cells #[.int .i64 2, .slice R.A1 n R.c1, .slice R.A2 n R.c2, .slice R.A3 n R.c3] 30)).alloc (.cells #[.int .i64 2, .slice R.A1 n R.c1, .slice R.A2 n R.c2, .slice R.A3 n R.c3] 30))) := Below.drew (below_alloc (below_alloc (Below.refl _ _) (Nat.le_refl _) _) (by simp) _)
            have HX0 := Lib.hid (show M3 w (World.drew ((w8.alloc (.cells #[.int .i64 2, .slice R.A1 n R.c1, .slice R.A2 n R.c2, .slice R.A3 n R.c3] 30)).alloc (.cells #[.int .i64 2, .slice R.A1 n R.c1, .slice R.A2 n R.c2, .slice R.A3 n R.c3] 30))) w1.heap.size n t g cap t2 g2 cap2 t3 g3 cap3 rb w8.heap.size (w8.heap.size + 1) R R R R R ∧ Ds w.heap.size t g t2 g2 t3 g3 rb w8.heap.size (w8.heap.size + 1) from ⟨M3.start HN8.out HT8.out HU8.out hbw hv2 hv3, by unfold Ds; omega⟩)
            have HX1 := Lib.hid (show M3 w (World.drew ((w8.alloc (.cells #[.int .i64 2, .slice R.A1 n R.c1, .slice R.A2 n R.c2, .slice R.A3 n R.c3] 30)).alloc (.cells #[.int .i64 2, .slice R.A1 n R.c1, .slice R.A2 n R.c2, .slice R.A3 n R.c3] 30))) w1.heap.size n t g cap t2 g2 cap2 t3 g3 cap3 rb (w8.heap.size + 1) w8.heap.size R R R R R ∧ Ds w.heap.size t g t2 g2 t3 g3 rb (w8.heap.size + 1) w8.heap.size from ⟨M3.start HN8.out HT8.out HU8.out hbw hv3 hv2, by unfold Ds; omega⟩)
            clear hv2 hv3 hbw
            apply mergeF (G := fun b2 b3 W => M3 w W w1.heap.size n t g cap t2 g2 cap2 t3 g3 cap3 rb b2 b3 R R R R R ∧ Ds w.heap.size t g t2 g2 t3 g3 rb b2 b3)
            · intro H
              go_region_with (fail)
              · have HX2 := Lib.hid HX0.out
                generalize (World.drew ((w8.alloc (.cells #[.int .i64 2, .slice R.A1 n R.c1, .slice R.A2 n R.c2, .slice R.A3 n R.c3] 30)).alloc (.cells #[.int .i64 2, .slice R.A1 n R.c1, .slice R.A2 n R.c2, .slice R.A3 n R.c3] 30))) = WW at HX2 ⊢
                generalize w8.heap.size + 1 = p3 at HX2 ⊢
                generalize w8.heap.size = p2 at HX2 ⊢
                exact H.out p2 p3 WW HX2.out
              all_goals first | exact H.out _ _ _ HX0.out | exact H.out _ _ _ HX1.out
            intro b2 b3 W0 ⟨hM0, hD0⟩
            have HM0 := Lib.hid hM0
            have HDS := Lib.hid hD0
            clear HN8 HT8 HU8 HX0 HX1 r0 r1 r2 r3 hM0 hD0
            go_wp2_with fail
            go_loopw [24] (fun i wr => ∃ k : Nat, k ≤ mlen ∧ k ≤ 100 ∧ i = .int .i64 k ∧ Hid (∃ Q2 Q3, M3 w wr w1.heap.size n t g cap t2 g2 cap2 t3 g3 cap3 rb b2 b3 R Q2 Q2 Q3 Q3)) (fun i _ => mlen - (intOf i).toNat)
            case atStart => exact ⟨0, Nat.zero_le _, Nat.zero_le _, rfl, Lib.hid ⟨R, R, HM0.out⟩⟩
            case round =>
              clear HM0
              obtain ⟨k, hk, hk4, rfl, hI⟩ := hrel
              obtain ⟨Q2, Q3, hM⟩ := hI.out
              have HM := Lib.hid hM
              clear hM hI
              by_cases hlt3 : k < mlen ∧ k < 100
              · obtain ⟨hl1, hl2⟩ := hlt3
                rcases HMC.out with h0 | ⟨lb, lo, rfl, hcells⟩
                · omega
                obtain ⟨kd, h, v, q0, q1, q2⟩ := hcells k hl1
                have HQ0 := Lib.hid q0
                have HQ1 := Lib.hid q1
                have HQ2 := Lib.hid q2
                clear hcells q0 q1 q2
                have q0 := keep HM.out.be HQ0.out
                have q1 := keep HM.out.be HQ1.out
                have q2 := keep HM.out.be HQ2.out
                have hb2l := HM.out.v2.lt
                have hb3l := HM.out.v3.lt
                have hg3l2 := HM.out.q3.ltg
                go_wp2_with fail
                refine reg25 (Q2' := Q2) (Q3' := Q2) hm2 hl1 q0 q1 q2 HDS HM (Lib.hid ?_)
                intro p1 W1 Q2' n133 n134 n135 n136 n137 n138 n139 n140 n141 n142 hM1 hV1 hp1
                have HM1 := Lib.hid hM1
                have HV1 := Lib.hid hV1
                clear hM1 hV1 q0 q1 q2
                have q0 := keep HM1.out.be HQ0.out
                have q1 := keep HM1.out.be HQ1.out
                have q2 := keep HM1.out.be HQ2.out
                dsimp only
                go_wp2_with fail
                refine reg26 (Q3' := Q2) hm2 hl1 q0 q1 q2 HDS HM1 HV1 (by omega) (Lib.hid ?_)
                intro p2 W2 Q3' n143 n144 n145 n146 n147 n148 n149 n150 n151 n152 hM2 hVA hVB hp12 hp23 hp22
                have HM2 := Lib.hid hM2
                have HVA := Lib.hid hVA
                have HVB := Lib.hid hVB
                clear hM2 hVA hVB q0 q1 q2 HV1 HM1
                dsimp only
                go_wp2_with fail
                refine reg27 (lb := 0) (lo := 0) (mlen := 0) (mcap := 0) (k := 0) (kd := 0) (h := 0) (v := 0) HDS HM2 HVA HVB hp12 hp23 hp22 (by omega) (by omega) (Lib.hid ?_)
                intro W3 n153 n154 hM3
                have HM3 := Lib.hid hM3
                clear hM3 HM2 HVA HVB
                dsimp only
                go_wp2
                go_roundw
                case rel => exact ⟨k + 1, by omega, by omega, by go_num, Lib.hid ⟨Q2', Q3', HM3.out⟩⟩
                case measure => simp [intOf]; omega
              · obtain ⟨x0, x1, x2, x3⟩ := VarT.c HM.out.v1
                obtain ⟨y0, y1, y2, y3⟩ := VarT.c HM.out.v2
                obtain ⟨z0, z1, z2, z3⟩ := VarT.c HM.out.v3
                have HD := Lib.hid hlt3
                clear hlt3
                rcases Nat.lt_or_ge k mlen with h1 | h1
                · have u1 : decide (k < mlen) = true := decide_eq_true h1
                  have u2 : decide ((k : Int) < 100) = false := decide_eq_false (by have := HD.out; omega)
                  have u3 : decide (k < 100) = false := decide_eq_false (by have := HD.out; omega)
                  go_wp2_with fail
                  refine (samew HM.out.q1).mono ?_
                  rintro e w4 ⟨rfl, hb4⟩
                  replace y0 := keep hb4 y0
                  replace y1 := keep hb4 y1
                  replace y2 := keep hb4 y2
                  replace y3 := keep hb4 y3
                  replace z0 := keep hb4 z0
                  replace z1 := keep hb4 z1
                  replace z2 := keep hb4 z2
                  replace z3 := keep hb4 z3
                  have HM4 := Lib.hid (HM.out.below hb4)
                  clear hb4 HM x0 x1 x2 x3
                  go_wp2_with fail
                  refine (samew HM4.out.q2).mono ?_
                  rintro e w5 ⟨rfl, hb5⟩
                  replace z0 := keep hb5 z0
                  replace z1 := keep hb5 z1
                  replace z2 := keep hb5 z2
                  replace z3 := keep hb5 z3
                  have HM5 := Lib.hid (HM4.out.below hb5)
                  clear hb5 HM4 y0 y1 y2 y3
                  go_wp2_with fail
                  refine (samew HM5.out.q3).mono ?_
                  rintro e w6 ⟨rfl, hb6⟩
                  have HM6 := Lib.hid (HM5.out.below hb6)
                  clear hb6 HM5 z0 z1 z2 z3
                  go_wp2_with fail
                  refine (sure03_ok w6).mono ?_
                  rintro e w7 ⟨rfl, hb7⟩
                  have HB7 := Lib.hid (below_call HM6.out.be (Nat.le_refl _) hb7)
                  clear hb7 HM6
                  go_wp2
                  go_ret
                  exact ⟨rfl, HB7.out⟩
                · have u1 : decide (k < mlen) = false := decide_eq_false (by omega)
                  go_wp2_with fail
                  refine (samew HM.out.q1).mono ?_
                  rintro e w4 ⟨rfl, hb4⟩
                  replace y0 := keep hb4 y0
                  replace y1 := keep hb4 y1
                  replace y2 := keep hb4 y2
                  replace y3 := keep hb4 y3
                  replace z0 := keep hb4 z0
                  replace z1 := keep hb4 z1
                  replace z2 := keep hb4 z2
                  replace z3 := keep hb4 z3
                  have HM4 := Lib.hid (HM.out.below hb4)
                  clear hb4 HM x0 x1 x2 x3
                  go_wp2_with fail
                  refine (samew HM4.out.q2).mono ?_
                  rintro e w5 ⟨rfl, hb5⟩
                  replace z0 := keep hb5 z0
                  replace z1 := keep hb5 z1
                  replace z2 := keep hb5 z2
                  replace z3 := keep hb5 z3
                  have HM5 := Lib.hid (HM4.out.below hb5)
                  clear hb5 HM4 y0 y1 y2 y3
                  go_wp2_with fail
                  refine (samew HM5.out.q3).mono ?_
                  rintro e w6 ⟨rfl, hb6⟩
                  have HM6 := Lib.hid (HM5.out.below hb6)
                  clear hb6 HM5 z0 z1 z2 z3
                  go_wp2_with fail
                  refine (sure03_ok w6).mono ?_
                  rintro e w7 ⟨rfl, hb7⟩
                  have HB7 := Lib.hid (below_call HM6.out.be (Nat.le_refl _) hb7)
                  clear hb7 HM6
                  go_wp2
                  go_ret
                  exact ⟨rfl, HB7.out⟩

end Go.Proofs.YtgjlkplieoajlaaDoor
