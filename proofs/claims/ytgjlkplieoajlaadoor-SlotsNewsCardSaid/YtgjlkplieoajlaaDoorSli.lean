/- The law's step: anything else. -/
import Derived.Test.YtgjlkplieoajlaaDoorSld
set_option linter.unusedVariables false
set_option linter.unusedSimpArgs false
namespace Go.Proofs.YtgjlkplieoajlaaDoor
open Go.RowKit
open Go.Proofs.YtgjlkplieoajlaaDoorW.PrintWords (Kd Drawn0 Kept rd rdOf)
open Go.Proofs.YtgjlkplieoajlaaDoor.PSlotsTwins
set_option maxRecDepth 100000

set_option maxHeartbeats 2000000 in
theorem step_all (t g n cap B : Nat) (kind kd h v : Int) (A1 : Option Addr) (c1 : Nat) (A2 : Option Addr) (c2 : Nat) (A3 : Option Addr) (c3 : Nat) (xs : List Sl) (w : World) (H : TB w t g n cap kind xs) (hT : Tk kind n xs) (R : RT w B n A1 c1 A2 c2 A3 c3 xs)
    (ht : t < B) (hg : g < B) (h0 : (kd == 0) = false) (h1 : (kd == 1) = false) (h2 : (kd == 2) = false) (h3 : (kd == 3) = false) :
    Calls Tryd.prog 19 #[.pointer (some ⟨t, 0, none⟩), .agg #[.int .i64 kind, .slice A1 n c1, .slice A2 n c2, .slice A3 n c3], .agg #[.int .i64 kd, .int .i64 h, .int .i64 v]] w (StepPost w t g n cap B kind (fun k => k = g ∨ Own3 n A1 c1 A2 c2 A3 c3 k)) := by
  have HTY := Lib.hid hT
  have hBw := R.sz
  have X3 := Lib.hid (StB.new w kind (.slice A1 n c1) (.slice A2 n c2) (.slice A3 n c3) kd h v)
  have D3 := Lib.hid ((((Chg.refl (fun k => k = g ∨ Own3 n A1 c1 A2 c2 A3 c3 k) w).alloc (.cells #[.int .i64 kind, .slice A1 n c1, .slice A2 n c2, .slice A3 n c3] 30)).alloc (.cells #[.int .i64 kd, .int .i64 h, .int .i64 v] 41)).alloc (.cells #[.int .i64 0, .slice none 0 0, .slice none 0 0, .slice none 0 0] 30))
  have E0 := ((((Chg.refl (fun _ => False) w).alloc (.cells #[.int .i64 kind, .slice A1 n c1, .slice A2 n c2, .slice A3 n c3] 30)).alloc (.cells #[.int .i64 kd, .int .i64 h, .int .i64 v] 41)).alloc (.cells #[.int .i64 0, .slice none 0 0, .slice none 0 0, .slice none 0 0] 30))
  have T3 := Lib.hid (H.chg E0 (fun f => f) (fun f => f))
  have R3 := Lib.hid (R.chg E0 (fun _ f => f.elim))
  clear E0 H R hT
  go_enter Tryd.func19, Tryd.ntmps19
  go_wp2_with fail
  generalize ((((w.alloc (.cells #[.int .i64 kind, .slice A1 n c1, .slice A2 n c2, .slice A3 n c3] 30)).alloc (.cells #[.int .i64 kd, .int .i64 h, .int .i64 v] 41)).alloc (.cells #[.int .i64 0, .slice none 0 0, .slice none 0 0, .slice none 0 0] 30))) = w3 at X3 D3 T3 R3 ⊢
  have HSM := Lib.hid (fun W (hb : Below w3.heap.size w3 W) => same_ok t g n cap B kind A1 c1 A2 c2 A3 c3 xs W (T3.out.below hb) HTY.out (R3.out.below hb))
  obtain ⟨r0, r1, r2, r3⟩ := X3.out.r
  go_region_with (first
    | (go_at_call 12; refine (HSM.out _ (by first | exact Below.refl _ _ | exact Below.drew (Below.refl _ _))).mono ?_; rintro e w4 ⟨rfl, hb4⟩; (try dsimp only); have r0 := keep hb4 r0; have r1 := keep hb4 r1; have r2 := keep hb4 r2; have r3 := keep hb4 r3; have HB4 := Lib.hid (show Below w3.heap.size w3 w4 from ⟨hb4.os, hb4.tape, hb4.output, hb4.size, hb4.block⟩); have zz := (X3.out.below HB4.out).z; have z0 := zz.1; have z1 := zz.2.1; have z2 := zz.2.2.1; have z3 := zz.2.2.2; have f0 := (X3.out.below HB4.out).f 0; have f1 := (X3.out.below HB4.out).f 1; have f2 := (X3.out.below HB4.out).f 2; have f3 := (X3.out.below HB4.out).f 3; clear zz hb4)
    | fail)
  all_goals
    go_wp2
    refine bodyPost_ret (v := .tuple #[.agg #[.int .i64 kind, .slice A1 n c1, .slice A2 n c2, .slice A3 n c3], .bool true]) (by simp [results, Tryd.results19, go_sem, z0, z1, z2, z3]) rfl ?_
    exact (X3.out.below HB4.out).fin (T3.out.below HB4.out) HTY.out (R3.out.below HB4.out) (D3.out.trans (Chg.ofBelow HB4.out (fun k => k = g ∨ Own3 n A1 c1 A2 c2 A3 c3 k))) (by omega) (by omega) _ _ _ _

end Go.Proofs.YtgjlkplieoajlaaDoor
