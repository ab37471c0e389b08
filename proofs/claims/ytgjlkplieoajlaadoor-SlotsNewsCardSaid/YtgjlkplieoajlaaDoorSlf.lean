/- The law's step: KGet. -/
import Derived.Test.YtgjlkplieoajlaaDoorSld
set_option linter.unusedVariables false
set_option linter.unusedSimpArgs false
namespace Go.Proofs.YtgjlkplieoajlaaDoor
open Go.RowKit
open Go.Proofs.YtgjlkplieoajlaaDoorW.PrintWords (Kd Drawn0 Kept rd rdOf)
open Go.Proofs.YtgjlkplieoajlaaDoor.PSlotsTwins
set_option maxRecDepth 100000

set_option maxHeartbeats 2000000 in
theorem step_get (t g n cap B : Nat) (kind h v : Int) (A1 : Option Addr) (c1 : Nat) (A2 : Option Addr) (c2 : Nat) (A3 : Option Addr) (c3 : Nat) (xs : List Sl) (w : World) (H : TB w t g n cap kind xs) (hT : Tk kind n xs) (R : RT w B n A1 c1 A2 c2 A3 c3 xs)
    (ht : t < B) (hg : g < B) (hE : 0 < g) (hEB : 0 < B) (hL : Laid w) :
    Calls Tryd.prog 19 #[.pointer (some ⟨t, 0, none⟩), .agg #[.int .i64 kind, .slice A1 n c1, .slice A2 n c2, .slice A3 n c3], .agg #[.int .i64 1, .int .i64 h, .int .i64 v]] w (StepPost w t g n cap B kind (fun k => k = g ∨ Own3 n A1 c1 A2 c2 A3 c3 k)) := by
  obtain ⟨rr, er, ev, hev, hE1, hC⟩ := get_any (t := t) (g := g) (cap := cap) hT h
  have HNV := Lib.hid hev
  have HTY := Lib.hid hT
  have HE1 := Lib.hid hE1
  have HC := Lib.hid hC
  have HH := Lib.hid H
  have HR := Lib.hid R
  have HLL := Lib.hid hL
  have hBw := R.sz
  have HO3 := Lib.hid (fun k (hk : Own3 n A1 c1 A2 c2 A3 c3 k) => (HR.out.base hk).2)
  have X0 := Lib.hid (StB.new w kind (.slice A1 n c1) (.slice A2 n c2) (.slice A3 n c3) 1 h v)
  have D0 := Lib.hid ((((Chg.refl (fun k => k = g ∨ Own3 n A1 c1 A2 c2 A3 c3 k) w).alloc (.cells #[.int .i64 kind, .slice A1 n c1, .slice A2 n c2, .slice A3 n c3] 30)).alloc (.cells #[.int .i64 1, .int .i64 h, .int .i64 v] 41)).alloc (.cells #[.int .i64 0, .slice none 0 0, .slice none 0 0, .slice none 0 0] 30))
  have E0 := Lib.hid ((((Chg.refl (fun _ => False) w).alloc (.cells #[.int .i64 kind, .slice A1 n c1, .slice A2 n c2, .slice A3 n c3] 30)).alloc (.cells #[.int .i64 1, .int .i64 h, .int .i64 v] 41)).alloc (.cells #[.int .i64 0, .slice none 0 0, .slice none 0 0, .slice none 0 0] 30))
  clear hev hE1 hC H R hL hT
  go_enter Tryd.func19, Tryd.ntmps19
  go_wp2_with fail
  refine (HC.out _ (HH.out.chg E0.out (fun f => f) (fun f => f))).mono ?_
  rintro e w1 ⟨rfl, hT1, hc1⟩
  have X1 := Lib.hid (X0.out.later hc1 (fun k hk => by rw [hk]; omega))
  have D1 := Lib.hid (D0.out.trans (hc1.mono (T := fun k => k = g ∨ Own3 n A1 c1 A2 c2 A3 c3 k) (fun k _ hk => .inl hk)))
  have R1 := Lib.hid ((HR.out.chg E0.out (fun _ f => f.elim)).chg hc1 (fun k hk hn => by have := (HR.out.base hn).1; rw [hk] at this; omega))
  have L1 := Lib.hid ((HLL.out.chg E0.out (fun f => f)).chg hc1 (fun e => by have : 0 = g := e; omega))
  have T1 := Lib.hid hT1
  clear hT1 hc1 X0 D0 E0 HH HR HLL HC
  obtain ⟨r0, r1, r2, r3⟩ := X1.out.r
  have o1 := X1.out.o.2.1
  go_wp2_with fail
  refine (rget_c R1.out h rr er HE1.out).mono ?_
  rintro e w3 ⟨rfl, hb3⟩
  have HB3 := Lib.hid hb3
  have X3 := Lib.hid (X1.out.below HB3.out)
  have D3 := Lib.hid (D1.out.trans (Chg.ofBelow HB3.out (fun k => k = g ∨ Own3 n A1 c1 A2 c2 A3 c3 k)))
  have T3 := Lib.hid (T1.out.below HB3.out)
  have R3 := Lib.hid (R1.out.below HB3.out)
  have HNUM := Lib.hid (fun W (hb : Below w3.heap.size w3 W) => num_any HNV.out W ((L1.out.below HB3.out).below hb))
  clear r0 r1 r2 r3 o1 X1 D1 R1 L1 T1 HB3 hb3
  obtain ⟨r0, r1, r2, r3⟩ := X3.out.r
  go_wp2_with fail
  go_region_with (first
    | (go_at_call 11; refine (HNUM.out _ (by first | exact Below.refl _ _ | exact Below.drew (Below.refl _ _))).mono ?_; rintro e w4 ⟨rfl, hb4⟩; (try dsimp only); have r0 := keep hb4 r0; have r1 := keep hb4 r1; have r2 := keep hb4 r2; have r3 := keep hb4 r3; have HB4 := Lib.hid (show Below w3.heap.size w3 w4 from ⟨hb4.os, hb4.tape, hb4.output, hb4.size, hb4.block⟩); have zz := (X3.out.below HB4.out).z; have z0 := zz.1; have z1 := zz.2.1; have z2 := zz.2.2.1; have z3 := zz.2.2.2; have f0 := (X3.out.below HB4.out).f 0; have f1 := (X3.out.below HB4.out).f 1; have f2 := (X3.out.below HB4.out).f 2; have f3 := (X3.out.below HB4.out).f 3; clear zz hb4)
    | fail)
  all_goals
    go_wp2
    refine bodyPost_ret (v := .tuple #[.agg #[.int .i64 kind, .slice A1 n c1, .slice A2 n c2, .slice A3 n c3], .bool true]) (by simp [results, Tryd.results19, go_sem, z0, z1, z2, z3]) rfl ?_
    exact (X3.out.below HB4.out).fin (T3.out.below HB4.out) HTY.out (R3.out.below HB4.out) (D3.out.trans (Chg.ofBelow HB4.out (fun k => k = g ∨ Own3 n A1 c1 A2 c2 A3 c3 k))) (by omega) (by omega) _ _ _ _

end Go.Proofs.YtgjlkplieoajlaaDoor
