/- The law SlotsLoads, by contract. Printed by gen_sl_loads.py (this repo's) but for its head. -/
import Derived.Test.YtgjlkplieoajlaaDoorSn4
set_option linter.unusedVariables false
set_option linter.unusedSimpArgs false
namespace Go.Proofs.YtgjlkplieoajlaaDoor
open Go.RowKit
open Go.Proofs.YtgjlkplieoajlaaDoorW.PrintWords (Kd Drawn0 Kept rd rdOf)
open Go.Proofs.YtgjlkplieoajlaaDoor.PSlotsTwins
set_option maxRecDepth 100000

section
variable {A1 : Option Addr} {n c1 : Nat} {A2 : Option Addr} {m c2 : Nat} {A3 : Option Addr} {p c3 : Nat} {gs : List Int} {ts : List Bool} {hs : List Int}
set_option maxHeartbeats 2000000 in
/-- Neither may be loaded: both say the same number. -/
theorem loads_err1 (kind : Int) (al : Option Addr) (len lcap : Nat) (w : World) (hL : Laid w)
    (HI : ∀ W, Below w.heap.size w W → Calls Tryd.prog 20 #[.int .i64 kind, .slice A1 n c1, .slice A2 m c2, .slice A3 p c3] W fun e w' => e = .returned (.tuple #[.pointer none, .iface 85 (.int .i64 1)]) ∧ Below W.heap.size W w')
    (HR : ∀ W, Below w.heap.size w W → Calls Tryd.prog 21 #[.int .i64 kind, .slice A1 n c1, .slice A2 m c2, .slice A3 p c3] W fun e w' => e = .returned (.tuple #[.agg #[.int .i64 0, .slice none 0 0, .slice none 0 0, .slice none 0 0], .int .i64 1]) ∧ Below W.heap.size W w') :
    Calls Tryd.prog 6 #[.agg #[.int .i64 kind, .slice A1 n c1, .slice A2 m c2, .slice A3 p c3], .slice al len lcap] w fun e w' => e = .returned (.bool true) ∧ Below w.heap.size w w' := by
  have HII := Lib.hid HI
  have HRR := Lib.hid HR
  have HB0 := Lib.hid ((Below.refl w.heap.size w).alloc (Nat.le_refl _) (.cells #[.int .i64 kind, .slice A1 n c1, .slice A2 m c2, .slice A3 p c3] 55))
  have HL0 := Lib.hid (hL.below HB0.out)
  have y0 : (w.alloc (.cells #[.int .i64 kind, .slice A1 n c1, .slice A2 m c2, .slice A3 p c3] 55)).cell? ⟨w.heap.size, 0, none⟩ = some (.int .i64 kind) := by simp
  have y1 : (w.alloc (.cells #[.int .i64 kind, .slice A1 n c1, .slice A2 m c2, .slice A3 p c3] 55)).cell? ⟨w.heap.size, 1, none⟩ = some (.slice A1 n c1) := by simp
  have y2 : (w.alloc (.cells #[.int .i64 kind, .slice A1 n c1, .slice A2 m c2, .slice A3 p c3] 55)).cell? ⟨w.heap.size, 2, none⟩ = some (.slice A2 m c2) := by simp
  have y3 : (w.alloc (.cells #[.int .i64 kind, .slice A1 n c1, .slice A2 m c2, .slice A3 p c3] 55)).cell? ⟨w.heap.size, 3, none⟩ = some (.slice A3 p c3) := by simp
  clear HI HR hL
  go_enter Tryd.func6, Tryd.ntmps6
  go_wp2_with fail
  refine (HII.out _ HB0.out).mono ?_
  rintro e w1 ⟨rfl, hb⟩
  replace y0 := keep hb y0
  replace y1 := keep hb y1
  replace y2 := keep hb y2
  replace y3 := keep hb y3
  have HB1 := Lib.hid (below_call HB0.out (Nat.le_refl _) hb)
  have HL1 := Lib.hid (HL0.out.below hb)
  clear hb HB0 HL0
  go_wp2_with fail
  refine (HRR.out _ HB1.out).mono ?_
  rintro e w2 ⟨rfl, hb2⟩
  have HB2 := Lib.hid (below_call HB1.out (Nat.le_refl _) hb2)
  have HL2 := Lib.hid (HL1.out.below hb2)
  clear hb2 HB1 HL1 y0 y1 y2 y3
  go_wp2_with fail
  have HBx := Lib.hid ((Below.refl w2.heap.size w2).alloc (Nat.le_refl _) (.cells #[.int .i64 0, .slice none 0 0, .slice none 0 0, .slice none 0 0] 30))
  generalize (w2.alloc (.cells #[.int .i64 0, .slice none 0 0, .slice none 0 0, .slice none 0 0] 30)) = w3 at HBx ⊢
  generalize w2.heap.size = xb
  refine (num03_err 1 w3 (HL2.out.below HBx.out)).mono ?_
  rintro e w4 ⟨rfl, hb4⟩
  have HB4 := Lib.hid (below_call (below_call HB2.out (Nat.le_refl _) HBx.out) (Nat.le_refl _) hb4)
  clear hb4 HBx
  go_wp2_with fail
  refine (sure03_ok w4).mono ?_
  rintro e w6 ⟨rfl, hb6⟩
  have HB6 := Lib.hid (below_call HB4.out (Nat.le_refl _) hb6)
  clear hb6
  go_wp2
  go_ret
  exact ⟨rfl, HB6.out⟩

set_option maxHeartbeats 2000000 in
/-- Neither may be loaded: both say the same number. -/
theorem loads_err270 (kind : Int) (al : Option Addr) (len lcap : Nat) (w : World) (hL : Laid w)
    (HI : ∀ W, Below w.heap.size w W → Calls Tryd.prog 20 #[.int .i64 kind, .slice A1 n c1, .slice A2 m c2, .slice A3 p c3] W fun e w' => e = .returned (.tuple #[.pointer none, .iface 85 (.int .i64 270)]) ∧ Below W.heap.size W w')
    (HR : ∀ W, Below w.heap.size w W → Calls Tryd.prog 21 #[.int .i64 kind, .slice A1 n c1, .slice A2 m c2, .slice A3 p c3] W fun e w' => e = .returned (.tuple #[.agg #[.int .i64 0, .slice none 0 0, .slice none 0 0, .slice none 0 0], .int .i64 270]) ∧ Below W.heap.size W w') :
    Calls Tryd.prog 6 #[.agg #[.int .i64 kind, .slice A1 n c1, .slice A2 m c2, .slice A3 p c3], .slice al len lcap] w fun e w' => e = .returned (.bool true) ∧ Below w.heap.size w w' := by
  have HII := Lib.hid HI
  have HRR := Lib.hid HR
  have HB0 := Lib.hid ((Below.refl w.heap.size w).alloc (Nat.le_refl _) (.cells #[.int .i64 kind, .slice A1 n c1, .slice A2 m c2, .slice A3 p c3] 55))
  have HL0 := Lib.hid (hL.below HB0.out)
  have y0 : (w.alloc (.cells #[.int .i64 kind, .slice A1 n c1, .slice A2 m c2, .slice A3 p c3] 55)).cell? ⟨w.heap.size, 0, none⟩ = some (.int .i64 kind) := by simp
  have y1 : (w.alloc (.cells #[.int .i64 kind, .slice A1 n c1, .slice A2 m c2, .slice A3 p c3] 55)).cell? ⟨w.heap.size, 1, none⟩ = some (.slice A1 n c1) := by simp
  have y2 : (w.alloc (.cells #[.int .i64 kind, .slice A1 n c1, .slice A2 m c2, .slice A3 p c3] 55)).cell? ⟨w.heap.size, 2, none⟩ = some (.slice A2 m c2) := by simp
  have y3 : (w.alloc (.cells #[.int .i64 kind, .slice A1 n c1, .slice A2 m c2, .slice A3 p c3] 55)).cell? ⟨w.heap.size, 3, none⟩ = some (.slice A3 p c3) := by simp
  clear HI HR hL
  go_enter Tryd.func6, Tryd.ntmps6
  go_wp2_with fail
  refine (HII.out _ HB0.out).mono ?_
  rintro e w1 ⟨rfl, hb⟩
  replace y0 := keep hb y0
  replace y1 := keep hb y1
  replace y2 := keep hb y2
  replace y3 := keep hb y3
  have HB1 := Lib.hid (below_call HB0.out (Nat.le_refl _) hb)
  have HL1 := Lib.hid (HL0.out.below hb)
  clear hb HB0 HL0
  go_wp2_with fail
  refine (HRR.out _ HB1.out).mono ?_
  rintro e w2 ⟨rfl, hb2⟩
  have HB2 := Lib.hid (below_call HB1.out (Nat.le_refl _) hb2)
  have HL2 := Lib.hid (HL1.out.below hb2)
  clear hb2 HB1 HL1 y0 y1 y2 y3
  go_wp2_with fail
  have HBx := Lib.hid ((Below.refl w2.heap.size w2).alloc (Nat.le_refl _) (.cells #[.int .i64 0, .slice none 0 0, .slice none 0 0, .slice none 0 0] 30))
  generalize (w2.alloc (.cells #[.int .i64 0, .slice none 0 0, .slice none 0 0, .slice none 0 0] 30)) = w3 at HBx ⊢
  generalize w2.heap.size = xb
  refine (num03_err 270 w3 (HL2.out.below HBx.out)).mono ?_
  rintro e w4 ⟨rfl, hb4⟩
  have HB4 := Lib.hid (below_call (below_call HB2.out (Nat.le_refl _) HBx.out) (Nat.le_refl _) hb4)
  clear hb4 HBx
  go_wp2_with fail
  refine (sure03_ok w4).mono ?_
  rintro e w6 ⟨rfl, hb6⟩
  have HB6 := Lib.hid (below_call HB4.out (Nat.le_refl _) hb6)
  clear hb6
  go_wp2
  go_ret
  exact ⟨rfl, HB6.out⟩

set_option maxHeartbeats 4000000 in
theorem loads_good (kind : Int) (k0 : 1 ≤ kind) (k3 : kind ≤ 3) (n0 : 1 ≤ n) (n1 : n ≤ 4096) (al : Option Addr) (len lcap : Nat) (w : World) (HA : LdA w A1 n c1 A2 n c2 A3 p c3 gs ts hs) (hok : (∀ i, i < n → okSl gs ts hs i) ∧ cntT ts n = p) (hm : len ≤ maxLen)
    (hc : len = 0 ∨ ∃ b o, al = some ⟨b, o, none⟩ ∧ ∀ i, i < len → ∃ x0 x1 x2 : Int, w.cell? ⟨b, o + i * 3, none⟩ = some (.int .i64 x0) ∧ w.cell? ⟨b, o + i * 3 + 1, none⟩ = some (.int .i64 x1) ∧ w.cell? ⟨b, o + i * 3 + 2, none⟩ = some (.int .i64 x2)) (hL : Laid w) :
    Calls Tryd.prog 6 #[.agg #[.int .i64 kind, .slice A1 n c1, .slice A2 n c2, .slice A3 p c3], .slice al len lcap] w fun e w' => e = .returned (.bool true) ∧ Below w.heap.size w w' := by
  unfold maxLen at hm
  have HCC := Lib.hid hc
  have HE := Laid.lt hL
  have hok2 := Lib.hid ((ok_iff HA.a2.1 HA.a3.1).1 hok)
  have hok1 := Lib.hid hok
  have HB0 := Lib.hid ((Below.refl w.heap.size w).alloc (Nat.le_refl _) (.cells #[.int .i64 kind, .slice A1 n c1, .slice A2 n c2, .slice A3 p c3] 55))
  have HL0 := Lib.hid (hL.below HB0.out)
  have HA0 := Lib.hid (HA.below HB0.out)
  have y0 : (w.alloc (.cells #[.int .i64 kind, .slice A1 n c1, .slice A2 n c2, .slice A3 p c3] 55)).cell? ⟨w.heap.size, 0, none⟩ = some (.int .i64 kind) := by simp
  have y1 : (w.alloc (.cells #[.int .i64 kind, .slice A1 n c1, .slice A2 n c2, .slice A3 p c3] 55)).cell? ⟨w.heap.size, 1, none⟩ = some (.slice A1 n c1) := by simp
  have y2 : (w.alloc (.cells #[.int .i64 kind, .slice A1 n c1, .slice A2 n c2, .slice A3 p c3] 55)).cell? ⟨w.heap.size, 2, none⟩ = some (.slice A2 n c2) := by simp
  have y3 : (w.alloc (.cells #[.int .i64 kind, .slice A1 n c1, .slice A2 n c2, .slice A3 p c3] 55)).cell? ⟨w.heap.size, 3, none⟩ = some (.slice A3 p c3) := by simp
  clear hc hL HA hok
  · go_enter Tryd.func6, Tryd.ntmps6
    go_wp2_with fail
    refine (sload_any kind k0 k3 n0 n1 HA0.out).mono ?_
    rintro e w1 (⟨_, _, t, g, cap, rfl, hT, ht, hg, hb⟩ | ⟨hbad, _⟩)
    rotate_left
    · exact absurd hok1.out hbad
    have htl := hT.lt
    have hgl := hT.ltg
    have hs0 : w.heap.size ≤ (w.alloc (.cells #[.int .i64 kind, .slice A1 n c1, .slice A2 n c2, .slice A3 p c3] 55)).heap.size := HB0.out.size
    replace ht : w.heap.size ≤ t := Nat.le_trans hs0 ht
    replace hg : w.heap.size ≤ g := Nat.le_trans hs0 hg
    replace y0 := keep hb y0
    replace y1 := keep hb y1
    replace y2 := keep hb y2
    replace y3 := keep hb y3
    have HT := Lib.hid hT
    have HB := Lib.hid (below_call HB0.out (Nat.le_refl _) hb)
    have HL1 := Lib.hid (HL0.out.below hb)
    have HA1 := Lib.hid (HA0.out.below hb)
    clear hT hb HL0 HA0 HB0 hs0
    go_wp2_with fail
    refine (rload_any kind k0 k3 n0 n1 HA1.out).mono ?_
    rintro e w2 (⟨_, _, B1, d1, B2, d2, B3, d3, rfl, hR, hb2⟩ | ⟨hbad, _⟩)
    rotate_left
    · exact absurd hok2.out hbad
    have HI : Hid (PlayI w (w2.alloc (.cells #[.int .i64 kind, .slice B1 n d1, .slice B2 n d2, .slice B3 n d3] 30)) t g n cap w1.heap.size w2.heap.size kind) := by
      have b3 := (Below.refl w2.heap.size w2).alloc (Nat.le_refl _) (.cells #[.int .i64 kind, .slice B1 n d1, .slice B2 n d2, .slice B3 n d3] 30)
      exact Lib.hid ⟨_, _, _, _, _, _, _, (HT.out.below hb2).below b3, Tk.load k0 k3 n0 n1 hok1.out.1, hR.below b3, VarT.new w2 n kind _ _ _ _ _ _, (HL1.out.below hb2).below b3, below_call (below_call HB.out (Nat.le_refl _) hb2) (Nat.le_refl _) b3⟩
    have hs2 := hb2.size
    have HBw1 := HB.out.size
    clear hR hb2 HT HB HL1 HA1 y0 y1 y2 y3 hok1 hok2
    go_wp2_with fail
    generalize (w2.alloc (.cells #[.int .i64 kind, .slice B1 n d1, .slice B2 n d2, .slice B3 n d3] 30)) = w3 at HI ⊢
    generalize w2.heap.size = rb at hs2 HI ⊢
    go_loopw [9] (fun i wr => ∃ k : Nat, k ≤ len ∧ k ≤ 200 ∧ i = .int .i64 k ∧ Hid (PlayI w wr t g n cap w1.heap.size rb kind)) (fun i _ => len - (intOf i).toNat)
    case atStart => exact ⟨0, Nat.zero_le _, Nat.zero_le _, rfl, HI⟩
    case round =>
      clear HI
      obtain ⟨k, hk, hk4, rfl, hI⟩ := hrel
      obtain ⟨xs, A1, c1, A2, c2, A3, c3, hT, hTk, hR, hV, hL, hB⟩ := hI.out
      obtain ⟨r0, r1, r2, r3⟩ := hV.c
      have HTw := Lib.hid hT
      have HTK := Lib.hid hTk
      have HR := Lib.hid hR
      have HV := Lib.hid hV
      have HLw := Lib.hid hL
      have HBw := Lib.hid hB
      clear hT hTk hR hV hL hB hI
      by_cases hlt : k < len ∧ k < 200
      · obtain ⟨hl1, hl2⟩ := hlt
        rcases HCC.out with h0 | ⟨lb, lo, rfl, hcells⟩
        · omega
        obtain ⟨kd, h, v, q0, q1, q2⟩ := hcells k hl1
        replace q0 := keep HBw.out q0
        replace q1 := keep HBw.out q1
        replace q2 := keep HBw.out q2
        have HST := Lib.hid (fun W (hb : Below wr.heap.size wr W) => step_any t g n cap w1.heap.size kind kd h v A1 c1 A2 c2 A3 c3 xs W (HTw.out.below hb) HTK.out (HR.out.below hb) (by omega) (by omega) (by omega) (by omega) (HLw.out.below hb))
        go_wp2_with fail
        have hrb := HV.out.lt
        have hlb : lb < wr.heap.size := World.block_lt_of_cell? wr ⟨lb, _, none⟩ q0
        have hsw := HBw.out.size
        have HNS := Lib.hid (show ¬ (wr.heap.size = g ∨ Own3 n A1 c1 A2 c2 A3 c3 wr.heap.size) from fun h => h.elim (fun e => by omega) (fun e => by have := (HR.out.base e).2; omega))
        have HRS := Lib.hid (show ¬ (rb = g ∨ Own3 n A1 c1 A2 c2 A3 c3 rb) from fun h => h.elim (fun e => by omega) (HR.out.ne_blk HV.out))
        have HES := Lib.hid (show ¬ (0 = g ∨ Own3 n A1 c1 A2 c2 A3 c3 0) from fun h => h.elim (fun e => by omega) (fun e => by have := (HR.out.base e).1; omega))
        have HWS := Lib.hid (show ∀ k, (k = g ∨ Own3 n A1 c1 A2 c2 A3 c3 k) → w.heap.size ≤ k from fun k h => h.elim (fun e => by omega) (fun e => by have := (HR.out.base e).1; omega))
        go_wp2_with fail
        go_region_with (first
          | (go_at_call 19; refine (HST.out _ (Below.drew (below_alloc (Below.refl _ _) (Nat.le_refl _) _))).mono ?_; rintro e w5 ⟨ys, B1, d1, B2, d2, B3, d3, rfl, hT5, hTk5, hR5, hc5⟩; (try dsimp only); have Z5 := hc5.heap (k := wr.heap.size) (heap_alloc_new wr (.cells #[.int .i64 0, .slice none 0 0, .slice none 0 0, .slice none 0 0] 30)) HNS.out; have C5 : Chg (fun k => k = g ∨ Own3 n A1 c1 A2 c2 A3 c3 k) wr w5 := Chg.trans (by repeat (first | exact Chg.refl _ _ | refine Chg.alloc ?_ _ | refine Chg.drew ?_)) hc5; have J5 := Lib.hid (show PlayJ w w5 t g n cap w1.heap.size rb kind ys B1 d1 B2 d2 B3 d3 A1 c1 A2 c2 A3 c3 from ⟨hT5, hTk5, hR5, HV.out.chg C5 HRS.out, HLw.out.chg C5 HES.out, HBw.out.trans (C5.below hsw HWS.out)⟩); obtain ⟨s0, s1, s2, s3⟩ := J5.out.vt.c; have g0 := J5.out.vt.f 0; have g1 := J5.out.vt.f 1; have g2 := J5.out.vt.f 2; have g3 := J5.out.vt.f 3; have hrb5 := J5.out.vt.lt; have hsz5 := C5.size; have HZ5 := Lib.hid Z5; have VZ : VarT w5 wr.heap.size 0 0 none 0 none 0 none 0 := Z5; obtain ⟨z0, z1, z2, z3⟩ := VZ.c; have y0 := VZ.f 0; have y1 := VZ.f 1; have y2 := VZ.f 2; have y3 := VZ.f 3; clear VZ Z5; clear hT5 hTk5 hR5 hc5 C5)
          | (go_at_call 19; refine (HST.out _ (by first | exact Below.refl _ _ | exact Below.drew (Below.refl _ _))).mono ?_; rintro e w5 ⟨ys, B1, d1, B2, d2, B3, d3, rfl, hT5, hTk5, hR5, hc5⟩; (try dsimp only); have C5 : Chg (fun k => k = g ∨ Own3 n A1 c1 A2 c2 A3 c3 k) wr w5 := Chg.trans (by repeat (first | exact Chg.refl _ _ | refine Chg.alloc ?_ _ | refine Chg.drew ?_)) hc5; have J5 := Lib.hid (show PlayJ w w5 t g n cap w1.heap.size rb kind ys B1 d1 B2 d2 B3 d3 A1 c1 A2 c2 A3 c3 from ⟨hT5, hTk5, hR5, HV.out.chg C5 HRS.out, HLw.out.chg C5 HES.out, HBw.out.trans (C5.below hsw HWS.out)⟩); obtain ⟨s0, s1, s2, s3⟩ := J5.out.vt.c; have g0 := J5.out.vt.f 0; have g1 := J5.out.vt.f 1; have g2 := J5.out.vt.f 2; have g3 := J5.out.vt.f 3; have hrb5 := J5.out.vt.lt; have hsz5 := C5.size; clear hT5 hTk5 hR5 hc5 C5)
          | fail)
        all_goals
          go_wp2
          go_roundw
          case rel =>
            refine ⟨k + 1, by omega, by omega, by go_num, ?_⟩
            first
              | exact Lib.hid ((J5.out.set4 HZ5.out (by omega) (by omega) (by omega) (by omega) (by omega) _ _ _ _).next (by omega) (by omega) (by omega) (by omega))
              | exact Lib.hid ((J5.out.next (by omega) (by omega) (by omega) (by omega)).alloc _)
          case measure => simp [intOf]; omega
      · have HSM := Lib.hid (fun W (hb : Below wr.heap.size wr W) => same_ok t g n cap w1.heap.size kind A1 c1 A2 c2 A3 c3 xs W (HTw.out.below hb) HTK.out (HR.out.below hb))
        rcases Nat.lt_or_ge k len with h1 | h1
        · have u1 : decide (k < len) = true := decide_eq_true h1
          have u2 : decide ((k : Int) < 200) = false := decide_eq_false (by omega)
          have u3 : decide (k < 200) = false := decide_eq_false (by omega)
          clear hlt
          go_wp2_with fail
          refine (HSM.out _ (Below.refl _ _)).mono ?_
          rintro e w4 ⟨rfl, hb4⟩
          have HB4 := Lib.hid (below_call HBw.out (Nat.le_refl _) hb4)
          clear hb4 r0 r1 r2 r3
          go_wp2_with fail
          refine (sure03_ok w4).mono ?_
          rintro e w6 ⟨rfl, hb6⟩
          have HB6 := Lib.hid (below_call HB4.out (Nat.le_refl _) hb6)
          clear hb6
          go_wp2
          go_ret
          exact ⟨rfl, HB6.out⟩
        · have u1 : decide (k < len) = false := decide_eq_false (by omega)
          clear hlt
          go_wp2_with fail
          refine (HSM.out _ (Below.refl _ _)).mono ?_
          rintro e w4 ⟨rfl, hb4⟩
          have HB4 := Lib.hid (below_call HBw.out (Nat.le_refl _) hb4)
          clear hb4 r0 r1 r2 r3
          go_wp2_with fail
          refine (sure03_ok w4).mono ?_
          rintro e w6 ⟨rfl, hb6⟩
          have HB6 := Lib.hid (below_call HB4.out (Nat.le_refl _) hb6)
          clear hb6
          go_wp2
          go_ret
          exact ⟨rfl, HB6.out⟩

theorem loads_ok (kind : Int) (al : Option Addr) (len lcap : Nat) (w : World) (HA : LdA w A1 n c1 A2 m c2 A3 p c3 gs ts hs) (hm : len ≤ maxLen)
    (hc : len = 0 ∨ ∃ b o, al = some ⟨b, o, none⟩ ∧ ∀ i, i < len → ∃ x0 x1 x2 : Int, w.cell? ⟨b, o + i * 3, none⟩ = some (.int .i64 x0) ∧ w.cell? ⟨b, o + i * 3 + 1, none⟩ = some (.int .i64 x1) ∧ w.cell? ⟨b, o + i * 3 + 2, none⟩ = some (.int .i64 x2)) (hL : Laid w) :
    Calls Tryd.prog 6 #[.agg #[.int .i64 kind, .slice A1 n c1, .slice A2 m c2, .slice A3 p c3], .slice al len lcap] w fun e w' => e = .returned (.bool true) ∧ Below w.heap.size w w' := by
  by_cases hv : 1 ≤ kind ∧ kind ≤ 3 ∧ 1 ≤ (n : Int) ∧ (n : Int) ≤ 4096
  · obtain ⟨k0, k3, n0, n1⟩ := hv
    have n0' : 1 ≤ n := by omega
    have n1' : n ≤ 4096 := by omega
    by_cases hmn : m = n
    · subst hmn
      by_cases hok : (∀ i, i < m → okSl gs ts hs i) ∧ cntT ts m = p
      · exact loads_good kind k0 k3 n0' n1' al len lcap w HA hok hm hc hL
      · refine loads_err270 kind al len lcap w hL (fun W hb => (sload_any kind k0 k3 n0' n1' (HA.below hb)).mono ?_) (fun W hb => (rload_any kind k0 k3 n0' n1' (HA.below hb)).mono ?_)
        · rintro e w' (⟨h1, h2, _⟩ | ⟨_, h⟩)
          · exact absurd ⟨h1, h2⟩ hok
          · exact h
        · rintro e w' (⟨h1, h2, _⟩ | ⟨_, h⟩)
          · exact absurd ((ok_iff HA.a2.1 HA.a3.1).2 ⟨h1, h2⟩) hok
          · exact h
    · exact loads_err270 kind al len lcap w hL (fun W hb => sload_len kind k0 k3 n0' n1' hmn) (fun W hb => rload_len kind k0 k3 n0' n1' hmn)
  · exact loads_err1 kind al len lcap w hL (fun W hb => sload_arg kind hv) (fun W hb => rload_arg kind hv)

theorem ldA_of {w : World} (h1 : n ≤ c1 ∧ n ≤ maxLen ∧ gs.length = n ∧ (0 < n → ∃ ad, A1 = some ad ∧ ∀ i, i < n → w.cell? (ad.add i) = some (.int .i64 (gs.getD i 0)))) (h2 : m ≤ c2 ∧ m ≤ maxLen ∧ ts.length = m ∧ (0 < m → ∃ ad, A2 = some ad ∧ ∀ i, i < m → w.cell? (ad.add i) = some (.bool (ts.getD i false)))) (h3 : p ≤ c3 ∧ p ≤ maxLen ∧ hs.length = p ∧ (0 < p → ∃ ad, A3 = some ad ∧ ∀ i, i < p → w.cell? (ad.add i) = some (.int .i64 (hs.getD i 0)))) : LdA w A1 n c1 A2 m c2 A3 p c3 gs ts hs :=
  ⟨Kd.C_of_reads (d := (0 : Int)) ⟨h1.2.2.1, h1.2.1, h1.2.2.2⟩, h1.1, Kd.C_of_reads (d := false) ⟨h2.2.2.1, h2.2.1, h2.2.2.2⟩, h2.1, Kd.C_of_reads (d := (0 : Int)) ⟨h3.2.2.1, h3.2.1, h3.2.2.2⟩, h3.1⟩
end
end Go.Proofs.YtgjlkplieoajlaaDoor
