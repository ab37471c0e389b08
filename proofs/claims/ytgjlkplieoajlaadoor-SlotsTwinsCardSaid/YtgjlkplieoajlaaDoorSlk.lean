/- The law SlotsPlays, by contract. -/
import Derived.Test.YtgjlkplieoajlaaDoorSlj
set_option linter.unusedVariables false
set_option linter.unusedSimpArgs false
namespace Go.Proofs.YtgjlkplieoajlaaDoor
open Go.RowKit
open Go.Proofs.YtgjlkplieoajlaaDoorW.PrintWords (Kd Drawn0 Kept rd rdOf)
open Go.Proofs.YtgjlkplieoajlaaDoor.PSlotsTwins
set_option maxRecDepth 100000

/-- A variable that holds a reference's table. -/
def VarT (W : World) (b n : Nat) (kind : Int) (A1 : Option Addr) (c1 : Nat) (A2 : Option Addr) (c2 : Nat) (A3 : Option Addr) (c3 : Nat) : Prop :=
  W.heap[b]? = some (.cells #[.int .i64 kind, .slice A1 n c1, .slice A2 n c2, .slice A3 n c3] 30 (0, 0))
section
variable {W W' : World} {b n : Nat} {kind : Int} {A1 : Option Addr} {c1 : Nat} {A2 : Option Addr} {c2 : Nat} {A3 : Option Addr} {c3 : Nat}
theorem VarT.c (h : VarT W b n kind A1 c1 A2 c2 A3 c3) : W.cell? ⟨b, 0, none⟩ = some (.int .i64 kind) ∧ W.cell? ⟨b, 1, none⟩ = some (.slice A1 n c1) ∧ W.cell? ⟨b, 2, none⟩ = some (.slice A2 n c2) ∧ W.cell? ⟨b, 3, none⟩ = some (.slice A3 n c3) := by
  unfold VarT at h
  simp [World.cell?, h]
theorem VarT.f (h : VarT W b n kind A1 c1 A2 c2 A3 c3) (i : Nat) : W.frozen? ⟨b, i, none⟩ = false := by
  unfold VarT at h
  simp [World.frozen?, h]
theorem VarT.chg (h : VarT W b n kind A1 c1 A2 c2 A3 c3) {S : Nat → Prop} (hc : Chg S W W') (hn : ¬ S b) : VarT W' b n kind A1 c1 A2 c2 A3 c3 := hc.heap h hn
theorem VarT.below (h : VarT W b n kind A1 c1 A2 c2 A3 c3) (hb : Below W.heap.size W W') : VarT W' b n kind A1 c1 A2 c2 A3 c3 := h.chg (Chg.ofBelow hb (fun _ => False)) (fun f => f)
theorem VarT.new (W : World) (n : Nat) (kind : Int) (A1 : Option Addr) (c1 : Nat) (A2 : Option Addr) (c2 : Nat) (A3 : Option Addr) (c3 : Nat) : VarT (W.alloc (.cells #[.int .i64 kind, .slice A1 n c1, .slice A2 n c2, .slice A3 n c3] 30)) W.heap.size n kind A1 c1 A2 c2 A3 c3 := heap_alloc_new W _
theorem VarT.set (h : VarT W b n kind A1 c1 A2 c2 A3 c3) (n' : Nat) (kind' : Int) (B1 : Option Addr) (d1 : Nat) (B2 : Option Addr) (d2 : Nat) (B3 : Option Addr) (d3 : Nat) :
    VarT ((((W.setCell ⟨b, 0, none⟩ (.int .i64 kind')).setCell ⟨b, 1, none⟩ (.slice B1 n' d1)).setCell ⟨b, 2, none⟩ (.slice B2 n' d2)).setCell ⟨b, 3, none⟩ (.slice B3 n' d3)) b n' kind' B1 d1 B2 d2 B3 d3 := by
  have h1 := heap_setCell_same W b 0 _ _ (.int .i64 kind') h
  have h2 := heap_setCell_same _ b 1 _ _ (.slice B1 n' d1) h1
  have h3 := heap_setCell_same _ b 2 _ _ (.slice B2 n' d2) h2
  exact heap_setCell_same _ b 3 _ _ (.slice B3 n' d3) h3
theorem VarT.lt (h : VarT W b n kind A1 c1 A2 c2 A3 c3) : b < W.heap.size := (Array.getElem?_eq_some_iff.1 h).1
end
theorem chg_set4 (W : World) (b : Nat) (v0 v1 v2 v3 : Value) : Chg (fun k => k = b) W ((((W.setCell ⟨b, 0, none⟩ v0).setCell ⟨b, 1, none⟩ v1).setCell ⟨b, 2, none⟩ v2).setCell ⟨b, 3, none⟩ v3) :=
  ((((Chg.refl (fun k => k = b) W).setCell ⟨b, 0, none⟩ v0 rfl).setCell ⟨b, 1, none⟩ v1 rfl).setCell ⟨b, 2, none⟩ v2 rfl).setCell ⟨b, 3, none⟩ v3 rfl

/-- What the loop holds. -/
def PlayI (w W : World) (t g n cap B rb : Nat) (kind : Int) : Prop :=
  ∃ (xs : List Sl) (A1 : Option Addr) (c1 : Nat) (A2 : Option Addr) (c2 : Nat) (A3 : Option Addr) (c3 : Nat), TB W t g n cap kind xs ∧ Tk kind n xs ∧ RT W B n A1 c1 A2 c2 A3 c3 xs ∧ VarT W rb n kind A1 c1 A2 c2 A3 c3 ∧ Laid W ∧ Below w.heap.size w W

/-- The same, the variable not yet set. -/
structure PlayJ (w W : World) (t g n cap B rb : Nat) (kind : Int) (ys : List Sl) (B1 : Option Addr) (d1 : Nat) (B2 : Option Addr) (d2 : Nat) (B3 : Option Addr) (d3 : Nat) (A1 : Option Addr) (c1 : Nat) (A2 : Option Addr) (c2 : Nat) (A3 : Option Addr) (c3 : Nat) : Prop where
  tb : TB W t g n cap kind ys
  tk : Tk kind n ys
  rt : RT W B n B1 d1 B2 d2 B3 d3 ys
  vt : VarT W rb n kind A1 c1 A2 c2 A3 c3
  la : Laid W
  be : Below w.heap.size w W
section
variable {w W : World} {t g n cap B rb : Nat} {kind : Int} {ys : List Sl} {B1 : Option Addr} {d1 : Nat} {B2 : Option Addr} {d2 : Nat} {B3 : Option Addr} {d3 : Nat} {A1 : Option Addr} {c1 : Nat} {A2 : Option Addr} {c2 : Nat} {A3 : Option Addr} {c3 : Nat}
theorem PlayJ.below {W' : World} (h : PlayJ w W t g n cap B rb kind ys B1 d1 B2 d2 B3 d3 A1 c1 A2 c2 A3 c3) (hb : Below W.heap.size W W') : PlayJ w W' t g n cap B rb kind ys B1 d1 B2 d2 B3 d3 A1 c1 A2 c2 A3 c3 :=
  ⟨h.tb.below hb, h.tk, h.rt.below hb, h.vt.below hb, h.la.below hb, below_call h.be (Nat.le_refl _) hb⟩
theorem PlayJ.set4 (h : PlayJ w W t g n cap B rb kind ys B1 d1 B2 d2 B3 d3 A1 c1 A2 c2 A3 c3) {xb : Nat} {cs : Array Value} (hx : W.heap[xb]? = some (.cells cs 30 (0, 0))) (ht : t < xb) (hg : g < xb) (hr : rb < xb) (he : 0 < xb) (hw : w.heap.size ≤ xb) (v0 v1 v2 v3 : Value) :
    PlayJ w ((((W.setCell ⟨xb, 0, none⟩ v0).setCell ⟨xb, 1, none⟩ v1).setCell ⟨xb, 2, none⟩ v2).setCell ⟨xb, 3, none⟩ v3) t g n cap B rb kind ys B1 d1 B2 d2 B3 d3 A1 c1 A2 c2 A3 c3 := by
  have C := chg_set4 W xb v0 v1 v2 v3
  exact ⟨h.tb.chg C (by show ¬ t = xb; omega) (by show ¬ g = xb; omega), h.tk, h.rt.chg C (fun k hk => by obtain rfl : k = _ := hk; exact h.rt.ne_blk hx), h.vt.chg C (by show ¬ rb = xb; omega), h.la.chg C (by show ¬ 0 = xb; omega), h.be.trans (C.below h.be.size (fun k hk => by rw [hk]; exact hw))⟩
theorem PlayJ.next (h : PlayJ w W t g n cap B rb kind ys B1 d1 B2 d2 B3 d3 A1 c1 A2 c2 A3 c3) (ht : t < rb) (hg : g < rb) (he : 0 < rb) (hw : w.heap.size ≤ rb) :
    PlayI w ((((W.setCell ⟨rb, 0, none⟩ (.int .i64 kind)).setCell ⟨rb, 1, none⟩ (.slice B1 n d1)).setCell ⟨rb, 2, none⟩ (.slice B2 n d2)).setCell ⟨rb, 3, none⟩ (.slice B3 n d3)) t g n cap B rb kind := by
  have C := chg_set4 W rb (.int .i64 kind) (.slice B1 n d1) (.slice B2 n d2) (.slice B3 n d3)
  exact ⟨ys, B1, d1, B2, d2, B3, d3, h.tb.chg C (by show ¬ t = rb; omega) (by show ¬ g = rb; omega), h.tk, h.rt.chg C (fun k hk => by obtain rfl : k = _ := hk; exact h.rt.ne_blk h.vt), h.vt.set n kind B1 d1 B2 d2 B3 d3, h.la.chg C (by show ¬ 0 = rb; omega), h.be.trans (C.below h.be.size (fun k hk => by rw [hk]; exact hw))⟩
end

theorem PlayI.below {w W W' : World} {t g n cap B rb : Nat} {kind : Int} (h : PlayI w W t g n cap B rb kind) (hb : Below W.heap.size W W') : PlayI w W' t g n cap B rb kind := by
  obtain ⟨xs, A1, c1, A2, c2, A3, c3, hT, hTk, hR, hV, hL, hB⟩ := h
  exact ⟨xs, A1, c1, A2, c2, A3, c3, hT.below hb, hTk, hR.below hb, hV.below hb, hL.below hb, below_call hB (Nat.le_refl _) hb⟩
theorem PlayI.alloc {w W : World} {t g n cap B rb : Nat} {kind : Int} (h : PlayI w W t g n cap B rb kind) (o : Obj) : PlayI w (W.alloc o) t g n cap B rb kind := h.below ((Below.refl _ W).alloc (Nat.le_refl _) o)

set_option maxHeartbeats 2000000 in
theorem plays_ok (kind many : Int) (al : Option Addr) (len lcap : Nat) (w : World) (hm : len ≤ maxLen)
    (hc : len = 0 ∨ ∃ b o, al = some ⟨b, o, none⟩ ∧ ∀ i, i < len → ∃ x0 x1 x2 : Int, w.cell? ⟨b, o + i * 3, none⟩ = some (.int .i64 x0) ∧ w.cell? ⟨b, o + i * 3 + 1, none⟩ = some (.int .i64 x1) ∧ w.cell? ⟨b, o + i * 3 + 2, none⟩ = some (.int .i64 x2)) (hL : Laid w) :
    Calls Tryd.prog 5 #[.int .i64 kind, .int .i64 many, .slice al len lcap] w fun e w' => e = .returned (.bool true) ∧ Below w.heap.size w w' := by
  unfold maxLen at hm
  have HCC := Lib.hid hc
  have HL := Lib.hid hL
  have HE := Laid.lt hL
  clear hc hL
  by_cases hv : 1 ≤ kind ∧ kind ≤ 3 ∧ 1 ≤ many ∧ many ≤ 4096
  · obtain ⟨k0, k3, n0, n1⟩ := hv
    obtain ⟨n, rfl⟩ : ∃ n : Nat, many = n := ⟨many.toNat, by omega⟩
    go_enter Tryd.func5, Tryd.ntmps5
    go_wp2_with fail
    refine (snew_ok kind n w k0 k3 (by omega) (by omega)).mono ?_
    rintro e w1 ⟨t, g, cap, rfl, hT, ht, hg, hb⟩
    have htl := hT.lt
    have hgl := hT.ltg
    have HT := Lib.hid hT
    have HB := Lib.hid hb
    have HL1 := Lib.hid (HL.out.below hb)
    clear hT hb HL
    go_wp2_with fail
    refine (rnew_c kind n w1 k0 k3 (by omega) (by omega)).mono ?_
    rintro e w2 ⟨B1, d1, B2, d2, B3, d3, rfl, hR, hb2⟩
    have HI : Hid (PlayI w (w2.alloc (.cells #[.int .i64 kind, .slice B1 n d1, .slice B2 n d2, .slice B3 n d3] 30)) t g n cap w1.heap.size w2.heap.size kind) := by
      have b3 := (Below.refl w2.heap.size w2).alloc (Nat.le_refl _) (.cells #[.int .i64 kind, .slice B1 n d1, .slice B2 n d2, .slice B3 n d3] 30)
      exact Lib.hid ⟨_, _, _, _, _, _, _, (HT.out.below hb2).below b3, Tk.one k0 k3 (by omega) (by omega), hR.below b3, VarT.new w2 n kind _ _ _ _ _ _, (HL1.out.below hb2).below b3, below_call (below_call HB.out (Nat.le_refl _) hb2) (Nat.le_refl _) b3⟩
    have hs2 := hb2.size
    have HBw1 := HB.out.size
    clear hR hb2 HT HB HL1
    go_wp2_with fail
    generalize (w2.alloc (.cells #[.int .i64 kind, .slice B1 n d1, .slice B2 n d2, .slice B3 n d3] 30)) = w3 at HI ⊢
    generalize w2.heap.size = rb at hs2 HI ⊢
    go_loopw [11] (fun i wr => ∃ k : Nat, k ≤ len ∧ k ≤ 400 ∧ i = .int .i64 k ∧ Hid (PlayI w wr t g n cap w1.heap.size rb kind)) (fun i _ => len - (intOf i).toNat)
    case atStart => exact ⟨0, Nat.zero_le _, Nat.zero_le _, rfl, HI⟩
    case round =>
      clear HI
      obtain ⟨k, hk, hk4, rfl, hI⟩ := hrel
      obtain ⟨xs, A1, c1, A2, c2, A3, c3, hT, hTk, hR, hV, hL, hB⟩ := hI.out
      obtain ⟨r0, r1, r2, r3⟩ := hV.c
      have HTw := Lib.hid hT
      have HTK := Lib.hid hTk
      have HR := Lib.hid hR
      have HV := Lib.hid hV
      have HLw := Lib.hid hL
      have HBw := Lib.hid hB
      clear hT hTk hR hV hL hB hI
      by_cases hlt : k < len ∧ k < 400
      · obtain ⟨hl1, hl2⟩ := hlt
        rcases HCC.out with h0 | ⟨lb, lo, rfl, hcells⟩
        · omega
        obtain ⟨kd, h, v, q0, q1, q2⟩ := hcells k hl1
        replace q0 := keep HBw.out q0
        replace q1 := keep HBw.out q1
        replace q2 := keep HBw.out q2
        have HST := Lib.hid (fun W (hb : Below wr.heap.size wr W) => step_any t g n cap w1.heap.size kind kd h v A1 c1 A2 c2 A3 c3 xs W (HTw.out.below hb) HTK.out (HR.out.below hb) (by omega) (by omega) (by omega) (by omega) (HLw.out.below hb))
        go_wp2_with fail
        have hrb := HV.out.lt
        have hlb : lb < wr.heap.size := World.block_lt_of_cell? wr ⟨lb, _, none⟩ q0
        have hsw := HBw.out.size
        have HNS := Lib.hid (show ¬ (wr.heap.size = g ∨ Own3 n A1 c1 A2 c2 A3 c3 wr.heap.size) from fun h => h.elim (fun e => by omega) (fun e => by have := (HR.out.base e).2; omega))
        have HRS := Lib.hid (show ¬ (rb = g ∨ Own3 n A1 c1 A2 c2 A3 c3 rb) from fun h => h.elim (fun e => by omega) (HR.out.ne_blk HV.out))
        have HES := Lib.hid (show ¬ (0 = g ∨ Own3 n A1 c1 A2 c2 A3 c3 0) from fun h => h.elim (fun e => by omega) (fun e => by have := (HR.out.base e).1; omega))
        have HWS := Lib.hid (show ∀ k, (k = g ∨ Own3 n A1 c1 A2 c2 A3 c3 k) → w.heap.size ≤ k from fun k h => h.elim (fun e => by omega) (fun e => by have := (HR.out.base e).1; omega))
        go_wp2_with fail
        go_region_with (first
          | (go_at_call 19; refine (HST.out _ (Below.drew (below_alloc (Below.refl _ _) (Nat.le_refl _) _))).mono ?_; rintro e w5 ⟨ys, B1, d1, B2, d2, B3, d3, rfl, hT5, hTk5, hR5, hc5⟩; (try dsimp only); have Z5 := hc5.heap (k := wr.heap.size) (heap_alloc_new wr (.cells #[.int .i64 0, .slice none 0 0, .slice none 0 0, .slice none 0 0] 30)) HNS.out; have C5 : Chg (fun k => k = g ∨ Own3 n A1 c1 A2 c2 A3 c3 k) wr w5 := Chg.trans (by repeat (first | exact Chg.refl _ _ | refine Chg.alloc ?_ _ | refine Chg.drew ?_)) hc5; have J5 := Lib.hid (show PlayJ w w5 t g n cap w1.heap.size rb kind ys B1 d1 B2 d2 B3 d3 A1 c1 A2 c2 A3 c3 from ⟨hT5, hTk5, hR5, HV.out.chg C5 HRS.out, HLw.out.chg C5 HES.out, HBw.out.trans (C5.below hsw HWS.out)⟩); obtain ⟨s0, s1, s2, s3⟩ := J5.out.vt.c; have g0 := J5.out.vt.f 0; have g1 := J5.out.vt.f 1; have g2 := J5.out.vt.f 2; have g3 := J5.out.vt.f 3; have hrb5 := J5.out.vt.lt; have hsz5 := C5.size; have HZ5 := Lib.hid Z5; have VZ : VarT w5 wr.heap.size 0 0 none 0 none 0 none 0 := Z5; obtain ⟨z0, z1, z2, z3⟩ := VZ.c; have y0 := VZ.f 0; have y1 := VZ.f 1; have y2 := VZ.f 2; have y3 := VZ.f 3; clear VZ Z5; clear hT5 hTk5 hR5 hc5 C5)
          | (go_at_call 19; refine (HST.out _ (by first | exact Below.refl _ _ | exact Below.drew (Below.refl _ _))).mono ?_; rintro e w5 ⟨ys, B1, d1, B2, d2, B3, d3, rfl, hT5, hTk5, hR5, hc5⟩; (try dsimp only); have C5 : Chg (fun k => k = g ∨ Own3 n A1 c1 A2 c2 A3 c3 k) wr w5 := Chg.trans (by repeat (first | exact Chg.refl _ _ | refine Chg.alloc ?_ _ | refine Chg.drew ?_)) hc5; have J5 := Lib.hid (show PlayJ w w5 t g n cap w1.heap.size rb kind ys B1 d1 B2 d2 B3 d3 A1 c1 A2 c2 A3 c3 from ⟨hT5, hTk5, hR5, HV.out.chg C5 HRS.out, HLw.out.chg C5 HES.out, HBw.out.trans (C5.below hsw HWS.out)⟩); obtain ⟨s0, s1, s2, s3⟩ := J5.out.vt.c; have g0 := J5.out.vt.f 0; have g1 := J5.out.vt.f 1; have g2 := J5.out.vt.f 2; have g3 := J5.out.vt.f 3; have hrb5 := J5.out.vt.lt; have hsz5 := C5.size; clear hT5 hTk5 hR5 hc5 C5)
          | fail)
        all_goals
          go_wp2
          go_roundw
          case rel =>
            refine ⟨k + 1, by omega, by omega, by go_num, ?_⟩
            first
              | exact Lib.hid ((J5.out.set4 HZ5.out (by omega) (by omega) (by omega) (by omega) (by omega) _ _ _ _).next (by omega) (by omega) (by omega) (by omega))
              | exact Lib.hid ((J5.out.next (by omega) (by omega) (by omega) (by omega)).alloc _)
          case measure => simp [intOf]; omega
      · have HSM := Lib.hid (fun W (hb : Below wr.heap.size wr W) => same_ok t g n cap w1.heap.size kind A1 c1 A2 c2 A3 c3 xs W (HTw.out.below hb) HTK.out (HR.out.below hb))
        rcases Nat.lt_or_ge k len with h1 | h1
        · have u1 : decide (k < len) = true := decide_eq_true h1
          have u2 : decide ((k : Int) < 400) = false := decide_eq_false (by omega)
          have u3 : decide (k < 400) = false := decide_eq_false (by omega)
          clear hlt
          go_wp2_with fail
          refine (HSM.out _ (Below.refl _ _)).mono ?_
          rintro e w4 ⟨rfl, hb4⟩
          have HB4 := Lib.hid (below_call HBw.out (Nat.le_refl _) hb4)
          clear hb4 r0 r1 r2 r3
          go_wp2_with fail
          refine (sure03_ok w4).mono ?_
          rintro e w6 ⟨rfl, hb6⟩
          have HB6 := Lib.hid (below_call HB4.out (Nat.le_refl _) hb6)
          clear hb6
          go_wp2
          go_ret
          exact ⟨rfl, HB6.out⟩
        · have u1 : decide (k < len) = false := decide_eq_false (by omega)
          clear hlt
          go_wp2_with fail
          refine (HSM.out _ (Below.refl _ _)).mono ?_
          rintro e w4 ⟨rfl, hb4⟩
          have HB4 := Lib.hid (below_call HBw.out (Nat.le_refl _) hb4)
          clear hb4 r0 r1 r2 r3
          go_wp2_with fail
          refine (sure03_ok w4).mono ?_
          rintro e w6 ⟨rfl, hb6⟩
          have HB6 := Lib.hid (below_call HB4.out (Nat.le_refl _) hb6)
          clear hb6
          go_wp2
          go_ret
          exact ⟨rfl, HB6.out⟩
  · go_enter Tryd.func5, Tryd.ntmps5
    go_wp2_with fail
    refine (snew_bad kind many w hv).mono ?_
    rintro e w1 ⟨rfl, m, hw⟩
    have HB := Lib.hid (show Below w.heap.size w w1 by rw [hw]; exact below_drewN' (Below.refl _ w) m)
    have HL1 := Lib.hid (HL.out.below HB.out)
    clear hw HL
    go_wp2_with fail
    refine (rnew_bad_c kind many w1 hv).mono ?_
    rintro e w2 ⟨B1, d1, B2, d2, B3, d3, rfl, hb2⟩
    have HB2 := Lib.hid (below_call HB.out (Nat.le_refl _) hb2)
    have HL2 := Lib.hid (HL1.out.below hb2)
    clear hb2 HB HL1
    go_wp2_with fail
    have HBx := Lib.hid ((Below.refl w2.heap.size w2).alloc (Nat.le_refl _) (.cells #[.int .i64 0, .slice B1 0 d1, .slice B2 0 d2, .slice B3 0 d3] 30))
    generalize (w2.alloc (.cells #[.int .i64 0, .slice B1 0 d1, .slice B2 0 d2, .slice B3 0 d3] 30)) = w3 at HBx ⊢
    generalize w2.heap.size = xb
    refine (num03_err 1 w3 (HL2.out.below HBx.out)).mono ?_
    rintro e w4 ⟨rfl, hb4⟩
    have HB4 := Lib.hid (below_call (below_call HB2.out (Nat.le_refl _) HBx.out) (Nat.le_refl _) hb4)
    clear hb4 HBx
    go_wp2_with fail
    refine (sure03_ok w4).mono ?_
    rintro e w6 ⟨rfl, hb6⟩
    have HB6 := Lib.hid (below_call HB4.out (Nat.le_refl _) hb6)
    clear hb6
    go_wp2
    go_ret
    exact ⟨rfl, HB6.out⟩

end Go.Proofs.YtgjlkplieoajlaaDoor
