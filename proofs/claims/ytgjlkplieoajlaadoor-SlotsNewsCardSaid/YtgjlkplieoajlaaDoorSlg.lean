/- The law's step: KSet. -/
import Derived.Test.YtgjlkplieoajlaaDoorSld
set_option linter.unusedVariables false
set_option linter.unusedSimpArgs false
namespace Go.Proofs.YtgjlkplieoajlaaDoor
open Go.RowKit
open Go.Proofs.YtgjlkplieoajlaaDoorW.PrintWords (Kd Drawn0 Kept rd rdOf)
open Go.Proofs.YtgjlkplieoajlaaDoor.PSlotsTwins
set_option maxRecDepth 100000

set_option maxHeartbeats 2000000 in
theorem step_set (t g n cap B : Nat) (kind h v : Int) (A1 : Option Addr) (c1 : Nat) (A2 : Option Addr) (c2 : Nat) (A3 : Option Addr) (c3 : Nat) (xs : List Sl) (w : World) (H : TB w t g n cap kind xs) (hT : Tk kind n xs) (R : RT w B n A1 c1 A2 c2 A3 c3 xs)
    (ht : t < B) (hg : g < B) (hE : 0 < g) (hEB : 0 < B) (hL : Laid w) :
    Calls Tryd.prog 19 #[.pointer (some ⟨t, 0, none⟩), .agg #[.int .i64 kind, .slice A1 n c1, .slice A2 n c2, .slice A3 n c3], .agg #[.int .i64 2, .int .i64 h, .int .i64 v]] w (StepPost w t g n cap B kind (fun k => k = g ∨ Own3 n A1 c1 A2 c2 A3 c3 k)) := by
  obtain ⟨ys, er, ev, hev, hTy, hE1, hC⟩ := set_any (t := t) (g := g) (cap := cap) hT h v
  have HNV := Lib.hid hev
  have HTY := Lib.hid hTy
  have HE1 := Lib.hid hE1
  have HC := Lib.hid hC
  have HH := Lib.hid H
  have HR := Lib.hid R
  have HLL := Lib.hid hL
  have hBw := R.sz
  have HO3 := Lib.hid (fun k (hk : Own3 n A1 c1 A2 c2 A3 c3 k) => (HR.out.base hk).2)
  have X0 := Lib.hid (StB.new w kind (.slice A1 n c1) (.slice A2 n c2) (.slice A3 n c3) 2 h v)
  have D0 := Lib.hid ((((Chg.refl (fun k => k = g ∨ Own3 n A1 c1 A2 c2 A3 c3 k) w).alloc (.cells #[.int .i64 kind, .slice A1 n c1, .slice A2 n c2, .slice A3 n c3] 30)).alloc (.cells #[.int .i64 2, .int .i64 h, .int .i64 v] 41)).alloc (.cells #[.int .i64 0, .slice none 0 0, .slice none 0 0, .slice none 0 0] 30))
  have E0 := Lib.hid ((((Chg.refl (fun _ => False) w).alloc (.cells #[.int .i64 kind, .slice A1 n c1, .slice A2 n c2, .slice A3 n c3] 30)).alloc (.cells #[.int .i64 2, .int .i64 h, .int .i64 v] 41)).alloc (.cells #[.int .i64 0, .slice none 0 0, .slice none 0 0, .slice none 0 0] 30))
  clear hev hTy hE1 hC H R hL hT
  go_enter Tryd.func19, Tryd.ntmps19
  go_wp2_with fail
  refine (HC.out _ (HH.out.chg E0.out (fun f => f) (fun f => f))).mono ?_
  rintro e w1 ⟨rfl, hT1, hc1⟩
  have X1 := Lib.hid (X0.out.later hc1 (fun k hk => by rw [hk]; omega))
  have D1 := Lib.hid (D0.out.trans (hc1.mono (T := fun k => k = g ∨ Own3 n A1 c1 A2 c2 A3 c3 k) (fun k _ hk => .inl hk)))
  have R1 := Lib.hid ((HR.out.chg E0.out (fun _ f => f.elim)).chg hc1 (fun k hk hn => by have := (HR.out.base hn).1; rw [hk] at this; omega))
  have L1 := Lib.hid ((HLL.out.chg E0.out (fun f => f)).chg hc1 (fun e => by have : 0 = g := e; omega))
  have T1 := Lib.hid hT1
  clear hT1 hc1 X0 D0 E0 HH HR HLL HC
  obtain ⟨r0, r1, r2, r3⟩ := X1.out.r
  have o2 := X1.out.o.2.2
  have o1 := X1.out.o.2.1
  go_wp2_with fail
  refine (rset_c R1.out h v er HTY.out.len HE1.out).mono ?_
  rintro e w2 ⟨B1, d1, B2, d2, B3, d3, rfl, hR2, hc2⟩
  have X2 := Lib.hid (X1.out.later hc2 (fun k hk => by
    exact HO3.out k hk))
  have D2 := Lib.hid (D1.out.trans (hc2.mono (T := fun k => k = g ∨ Own3 n A1 c1 A2 c2 A3 c3 k) (fun k _ hk => .inr hk)))
  have T2 := Lib.hid (T1.out.chg hc2 (fun k => by have := (R1.out.base k).1; omega) (fun k => by have := (R1.out.base k).1; omega))
  have L2 := Lib.hid (L1.out.chg hc2 (fun k => by have := (R1.out.base k).1; omega))
  have R2 := Lib.hid hR2
  clear r0 r1 r2 r3 o2 o1 X1 D1 R1 L1 T1 hR2 hc2
  go_wp2_with fail
  have HB3 := Lib.hid ((Below.refl w2.heap.size w2).alloc (Nat.le_refl _) (.cells #[.int .i64 kind, .slice B1 n d1, .slice B2 n d2, .slice B3 n d3] 30))
  have x0 : (w2.alloc (.cells #[.int .i64 kind, .slice B1 n d1, .slice B2 n d2, .slice B3 n d3] 30)).cell? ⟨w2.heap.size, 0, none⟩ = some (.int .i64 kind) := by simp
  have x1 : (w2.alloc (.cells #[.int .i64 kind, .slice B1 n d1, .slice B2 n d2, .slice B3 n d3] 30)).cell? ⟨w2.heap.size, 1, none⟩ = some (.slice B1 n d1) := by simp
  have x2 : (w2.alloc (.cells #[.int .i64 kind, .slice B1 n d1, .slice B2 n d2, .slice B3 n d3] 30)).cell? ⟨w2.heap.size, 2, none⟩ = some (.slice B2 n d2) := by simp
  have x3 : (w2.alloc (.cells #[.int .i64 kind, .slice B1 n d1, .slice B2 n d2, .slice B3 n d3] 30)).cell? ⟨w2.heap.size, 3, none⟩ = some (.slice B3 n d3) := by simp
  generalize (w2.alloc (.cells #[.int .i64 kind, .slice B1 n d1, .slice B2 n d2, .slice B3 n d3] 30)) = w3 at HB3 x0 x1 x2 x3 ⊢
  generalize w2.heap.size = xb at x0 x1 x2 x3 ⊢
  have X3 := Lib.hid (X2.out.below HB3.out)
  have D3 := Lib.hid (D2.out.trans (Chg.ofBelow HB3.out (fun k => k = g ∨ Own3 n A1 c1 A2 c2 A3 c3 k)))
  have T3 := Lib.hid (T2.out.below HB3.out)
  have R3 := Lib.hid (R2.out.below HB3.out)
  have HNUM := Lib.hid (fun W (hb : Below w3.heap.size w3 W) => num_any HNV.out W ((L2.out.below HB3.out).below hb))
  clear X2 D2 T2 R2 L2 HB3
  go_region_with (first
    | (go_at_call 11; refine (HNUM.out _ (by first | exact Below.refl _ _ | exact Below.drew (Below.refl _ _))).mono ?_; rintro e w4 ⟨rfl, hb4⟩; (try dsimp only); have x0 := keep hb4 x0; have x1 := keep hb4 x1; have x2 := keep hb4 x2; have x3 := keep hb4 x3; have HB4 := Lib.hid (show Below w3.heap.size w3 w4 from ⟨hb4.os, hb4.tape, hb4.output, hb4.size, hb4.block⟩); have zz := (X3.out.below HB4.out).z; have z0 := zz.1; have z1 := zz.2.1; have z2 := zz.2.2.1; have z3 := zz.2.2.2; have f0 := (X3.out.below HB4.out).f 0; have f1 := (X3.out.below HB4.out).f 1; have f2 := (X3.out.below HB4.out).f 2; have f3 := (X3.out.below HB4.out).f 3; clear zz hb4)
    | fail)
  all_goals
    go_wp2
    refine bodyPost_ret (v := .tuple #[.agg #[.int .i64 kind, .slice B1 n d1, .slice B2 n d2, .slice B3 n d3], .bool true]) (by simp [results, Tryd.results19, go_sem, z0, z1, z2, z3]) rfl ?_
    exact (X3.out.below HB4.out).fin (T3.out.below HB4.out) HTY.out (R3.out.below HB4.out) (D3.out.trans (Chg.ofBelow HB4.out (fun k => k = g ∨ Own3 n A1 c1 A2 c2 A3 c3 k))) (by omega) (by omega) _ _ _ _

end Go.Proofs.YtgjlkplieoajlaaDoor
