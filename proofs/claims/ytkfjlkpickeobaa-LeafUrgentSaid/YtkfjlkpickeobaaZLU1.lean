/- Of the text LU1 only what this claim needs (shake.py, this repo's). -/
import Derived.Test.YtkfjlkpickeobaaZLU0
import Derived.Test.YtkfjlkpickeobaaZPLeafUrgentx16
set_option linter.unusedVariables false
set_option linter.unusedSimpArgs false
namespace Go.Proofs.Ytkfjlkpickeobaa
open Go.RowKit
open Go.Proofs.YtkfjlkpickeobaaW.PrintWords (Kd Drawn0 Kept rd rdOf)
open Go.Proofs.Ytkfjlkpickeobaa.PLeafUrgent
set_option maxRecDepth 100000

theorem rmake_q (k s g : Int) (w : World) (hk0 : 1 ≤ k) (hk3 : k ≤ 3) (hs0 : 0 ≤ s) (hs1 : s < 1048576) (hg0 : 0 ≤ g) (hg1 : g < 1048576) :
    Calls Try.prog 25 #[.int .i64 k, .int .i64 s, .int .i64 g] w fun e w' => e = .returned (.int .i64 (mk k s g)) ∧ Below w.heap.size w w' :=
  (titheref03_Make.calls k s g _ w (show titheref03_Make.f k s g = some (mk k s g) by unfold titheref03_Make.f; rw [or_mk k s g hk0 hk3 hs0 hs1 hg0 hg1])).mono fun _ _ h => ⟨h.1, by obtain ⟨m, e⟩ := h.2.out; rw [e]; exact below_drewN' (Below.refl _ w) m⟩

abbrev T5 : Tk := ⟨5, [], 0, 0, 0, 0, 0, 0⟩
abbrev y2 : Jb := ⟨2, 0, 0, 0⟩
abbrev T6 : Tk := ⟨5, [y2], 0, 0, 0, 0, 0, 0⟩
abbrev T7 : Tk := ⟨5, [⟨1, 0, 0, 0⟩], 1, 1, 0, 0, 0, 0⟩
theorem push5 : pushF T5 y2 0 = (T6, 0) := by
  unfold pushF
  rw [if_neg (by decide), if_neg (by decide), if_neg (by decide), if_neg (by decide)]
  rfl
theorem run6 : runF T6 0 = (T7, 0, 0, 0) := by
  unfold runF
  rw [if_neg (by decide), if_neg (by decide)]
  rfl
abbrev xs1 (v : Value) (T : Tk) : List Sk := (List.replicate 8 oneSk).set 0 ⟨1, true, v, T⟩
theorem xs1_at (v : Value) (T : Tk) : SAt 2 (mk 2 (0 : Nat) 1) (xs1 v T) 0 ⟨1, true, v, T⟩ := ⟨rfl, rfl, rfl⟩
theorem xs1_ready (v : Value) : readyF (xs1 v T6) = mk 2 (0 : Nat) 1 := by
  unfold readyF
  show (List.foldl rdStep (0, 32) [(0, (⟨1, true, v, T6⟩ : Sk))]).1 = _
  simp [rdStep]
theorem chg_base {w W : World} {g b : Nat} (h : Chg (fun k => k = g) w W) (hb : b ≤ w.heap.size) (hg : b ≤ g) : Below b w W := h.below hb (fun k e => by omega)
theorem free0 : FreeSk oneSk := ⟨rfl, by decide⟩

set_option maxHeartbeats 2000000 in
theorem sure13_ok (w : World) : Calls Try.prog 12 #[] w fun e w' => e = .returned (.bool true) ∧ Below w.heap.size w w' := by
  go_enter Try.func12, Try.ntmps12
  go_wp2_with fail
  refine (lnew_ok _).mono ?_
  rintro e w1 ⟨p, t, g, cap, rfl, hL, hp, ht, hg, hb⟩
  have HL := Lib.hid hL
  have HB := Lib.hid hb
  have HG := Lib.hid hg
  clear hL hb hp ht hg
  go_wp2_with fail
  refine (ladd_hit p t g cap 0 5 (List.replicate 8 oneSk) oneSk _ HL.out (by omega) rfl free0 (fun j y hj => absurd hj (Nat.not_lt_zero j))).mono ?_
  rintro e w2 ⟨v, rfl, hL2, hc2⟩
  obtain ⟨h5, hh5⟩ : ∃ y, y = mk 2 (0 : Nat) 1 := ⟨_, rfl⟩
  rw [show mk 2 ((0 : Nat) : Int) oneSk.f0 = h5 from hh5.symm]
  have HH5 := Lib.hid hh5
  have HL2 := Lib.hid hL2
  have HB2 := Lib.hid (HB.out.trans (chg_base hc2 HB.out.size HG.out))
  clear hh5 hL2 hc2
  go_wp2_with fail
  refine (lpush_ok p t g cap 0 h5 0 y2 (xs1 v T5) ⟨1, true, v, T5⟩ T6 _ HL2.out (by rw [HH5.out]; exact xs1_at v T5) push5).mono ?_
  rintro e w3 ⟨v3, rfl, hL3, hc3⟩
  have HL3 : Hid (LF w3 p t g cap (xs1 v3 T6)) := Lib.hid hL3
  have HB3 := Lib.hid (HB2.out.trans (chg_base hc3 HB2.out.size HG.out))
  clear hL3 hc3
  go_wp2_with fail
  refine (loffer_ok p t g cap 0 0 0 0 (xs1 v3 T6) ⟨1, true, v3, T6⟩ T7 _ HL3.out (by rw [xs1_ready]; exact xs1_at v3 T6) run6).mono ?_
  rintro e w4 ⟨v4, rfl, hL4, hc4⟩
  rw [show readyF (xs1 v3 T6) = h5 from (xs1_ready v3).trans HH5.out.symm, show markF 0 = 0 from rfl]
  have HB4 := Lib.hid (HB3.out.trans (chg_base hc4 HB3.out.size HG.out))
  clear hL4 hc4
  go_wp2_with fail
  refine (rmake_q 2 0 1 _ (by omega) (by omega) (by omega) (by omega) (by omega) (by omega)).mono ?_
  rintro e w5 ⟨rfl, hb5⟩
  rw [show mk 2 0 1 = h5 from HH5.out.symm]
  have HB5 := Lib.hid (below_call HB4.out (Nat.le_refl _) hb5)
  clear hb5
  go_wp2
  go_ret
  exact ⟨rfl, HB5.out⟩

end Go.Proofs.Ytkfjlkpickeobaa
