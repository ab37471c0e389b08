/- The law SlotsNews, by contract; a step of any kind. -/
import Derived.Test.YtgjlkplieoajlaaDoorSmC
set_option linter.unusedVariables false
set_option linter.unusedSimpArgs false
namespace Go.Proofs.YtgjlkplieoajlaaDoor
open Go.RowKit
open Go.Proofs.YtgjlkplieoajlaaDoorW.PrintWords (Kd Drawn0 Kept rd rdOf)
open Go.Proofs.YtgjlkplieoajlaaDoor.PSlotsTwins
set_option maxRecDepth 100000

theorem step_any (t g n cap B : Nat) (kind kd h v : Int) (A1 : Option Addr) (c1 : Nat) (A2 : Option Addr) (c2 : Nat) (A3 : Option Addr) (c3 : Nat) (xs : List Sl) (w : World) (H : TB w t g n cap kind xs) (hT : Tk kind n xs) (R : RT w B n A1 c1 A2 c2 A3 c3 xs)
    (ht : t < B) (hg : g < B) (hE : 0 < g) (hEB : 0 < B) (hL : Laid w) :
    Calls Tryd.prog 19 #[.pointer (some ⟨t, 0, none⟩), .agg #[.int .i64 kind, .slice A1 n c1, .slice A2 n c2, .slice A3 n c3], .agg #[.int .i64 kd, .int .i64 h, .int .i64 v]] w (StepPost w t g n cap B kind (fun k => k = g ∨ Own3 n A1 c1 A2 c2 A3 c3 k)) := by
  by_cases h0 : kd = 0
  · subst h0; exact step_add t g n cap B kind h v A1 c1 A2 c2 A3 c3 xs w H hT R ht hg hE hEB hL
  by_cases h1 : kd = 1
  · subst h1; exact step_get t g n cap B kind h v A1 c1 A2 c2 A3 c3 xs w H hT R ht hg hE hEB hL
  by_cases h2 : kd = 2
  · subst h2; exact step_set t g n cap B kind h v A1 c1 A2 c2 A3 c3 xs w H hT R ht hg hE hEB hL
  by_cases h3 : kd = 3
  · subst h3; exact step_drop t g n cap B kind h v A1 c1 A2 c2 A3 c3 xs w H hT R ht hg hE hEB hL
  exact step_all t g n cap B kind kd h v A1 c1 A2 c2 A3 c3 xs w H hT R ht hg (by simpa using h0) (by simpa using h1) (by simpa using h2) (by simpa using h3)

theorem news_ok (kind many : Int) (w : World) (hL : Laid w) :
    Calls Tryd.prog 3 #[.int .i64 kind, .int .i64 many] w fun e w' => e = .returned (.bool true) ∧ Below w.heap.size w w' := by
  have HL := Lib.hid hL
  clear hL
  by_cases hv : 1 ≤ kind ∧ kind ≤ 3 ∧ 1 ≤ many ∧ many ≤ 4096
  · obtain ⟨k0, k3, n0, n1⟩ := hv
    obtain ⟨n, rfl⟩ : ∃ n : Nat, many = n := ⟨many.toNat, by omega⟩
    go_enter Tryd.func3, Tryd.ntmps3
    go_wp2_with fail
    refine (snew_ok kind n w k0 k3 (by omega) (by omega)).mono ?_
    rintro e w1 ⟨t, g, cap, rfl, hT, ht, hg, hb⟩
    have HT := Lib.hid hT
    have HB := Lib.hid hb
    have HL1 := Lib.hid (HL.out.below hb)
    clear hT hb HL
    go_wp2_with fail
    refine (rnew_c kind n w1 k0 k3 (by omega) (by omega)).mono ?_
    rintro e w2 ⟨B1, d1, B2, d2, B3, d3, rfl, hR, hb2⟩
    have HB2 := Lib.hid (below_call HB.out (Nat.le_refl _) hb2)
    have HT2 := Lib.hid (HT.out.below hb2)
    have HL2 := Lib.hid (HL1.out.below hb2)
    have HR2 := Lib.hid hR
    clear hR hb2 HT HB HL1
    go_wp2_with fail
    have HBx := Lib.hid ((Below.refl w2.heap.size w2).alloc (Nat.le_refl _) (.cells #[.int .i64 kind, .slice B1 n d1, .slice B2 n d2, .slice B3 n d3] 30))
    have x0 : (w2.alloc (.cells #[.int .i64 kind, .slice B1 n d1, .slice B2 n d2, .slice B3 n d3] 30)).cell? ⟨w2.heap.size, 0, none⟩ = some (.int .i64 kind) := by simp
    have x1 : (w2.alloc (.cells #[.int .i64 kind, .slice B1 n d1, .slice B2 n d2, .slice B3 n d3] 30)).cell? ⟨w2.heap.size, 1, none⟩ = some (.slice B1 n d1) := by simp
    have x2 : (w2.alloc (.cells #[.int .i64 kind, .slice B1 n d1, .slice B2 n d2, .slice B3 n d3] 30)).cell? ⟨w2.heap.size, 2, none⟩ = some (.slice B2 n d2) := by simp
    have x3 : (w2.alloc (.cells #[.int .i64 kind, .slice B1 n d1, .slice B2 n d2, .slice B3 n d3] 30)).cell? ⟨w2.heap.size, 3, none⟩ = some (.slice B3 n d3) := by simp
    generalize (w2.alloc (.cells #[.int .i64 kind, .slice B1 n d1, .slice B2 n d2, .slice B3 n d3] 30)) = w3 at HBx x0 x1 x2 x3 ⊢
    generalize w2.heap.size = xb at x0 x1 x2 x3 ⊢
    refine (num03_nil w3).mono ?_
    rintro e w4 ⟨rfl, hb4⟩
    have HB4 := Lib.hid (below_call HBx.out (Nat.le_refl _) hb4)
    have y0 := keep hb4 x0
    have y1 := keep hb4 x1
    have y2 := keep hb4 x2
    have y3 := keep hb4 x3
    clear x0 x1 x2 x3 hb4 HBx
    go_wp2_with fail
    refine (same_ok t g n cap w1.heap.size kind B1 d1 B2 d2 B3 d3 _ w4 (HT2.out.below HB4.out) (Tk.one k0 k3 (by omega) (by omega)) (HR2.out.below HB4.out)).mono ?_
    rintro e w5 ⟨rfl, hb5⟩
    have HB5 := Lib.hid (below_call (below_call HB2.out (Nat.le_refl _) HB4.out) (Nat.le_refl _) hb5)
    clear hb5 y0 y1 y2 y3
    go_wp2_with fail
    refine (sure03_ok w5).mono ?_
    rintro e w6 ⟨rfl, hb6⟩
    have HB6 := Lib.hid (below_call HB5.out (Nat.le_refl _) hb6)
    clear hb6
    go_wp2
    go_ret
    exact ⟨rfl, HB6.out⟩
  · go_enter Tryd.func3, Tryd.ntmps3
    go_wp2_with fail
    refine (snew_bad kind many w hv).mono ?_
    rintro e w1 ⟨rfl, m, hw⟩
    have HB := Lib.hid (show Below w.heap.size w w1 by rw [hw]; exact below_drewN' (Below.refl _ w) m)
    have HL1 := Lib.hid (HL.out.below HB.out)
    clear hw HL
    go_wp2_with fail
    refine (rnew_bad_c kind many w1 hv).mono ?_
    rintro e w2 ⟨B1, d1, B2, d2, B3, d3, rfl, hb2⟩
    have HB2 := Lib.hid (below_call HB.out (Nat.le_refl _) hb2)
    have HL2 := Lib.hid (HL1.out.below hb2)
    clear hb2 HB HL1
    go_wp2_with fail
    have HBx := Lib.hid ((Below.refl w2.heap.size w2).alloc (Nat.le_refl _) (.cells #[.int .i64 0, .slice B1 0 d1, .slice B2 0 d2, .slice B3 0 d3] 30))
    generalize (w2.alloc (.cells #[.int .i64 0, .slice B1 0 d1, .slice B2 0 d2, .slice B3 0 d3] 30)) = w3 at HBx ⊢
    generalize w2.heap.size = xb
    refine (num03_err 1 w3 (HL2.out.below HBx.out)).mono ?_
    rintro e w4 ⟨rfl, hb4⟩
    have HB4 := Lib.hid (below_call (below_call HB2.out (Nat.le_refl _) HBx.out) (Nat.le_refl _) hb4)
    clear hb4 HBx
    go_wp2_with fail
    refine (sure03_ok w4).mono ?_
    rintro e w6 ⟨rfl, hb6⟩
    have HB6 := Lib.hid (below_call HB4.out (Nat.le_refl _) hb6)
    clear hb6
    go_wp2
    go_ret
    exact ⟨rfl, HB6.out⟩

end Go.Proofs.YtgjlkplieoajlaaDoor
