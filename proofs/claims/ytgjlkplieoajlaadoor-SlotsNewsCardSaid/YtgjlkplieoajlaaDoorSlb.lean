/- The law's sure. -/
import Derived.Test.YtgjlkplieoajlaaDoorSla
set_option linter.unusedVariables false
set_option linter.unusedSimpArgs false
namespace Go.Proofs.YtgjlkplieoajlaaDoor
open Go.RowKit
open Go.Proofs.YtgjlkplieoajlaaDoorW.PrintWords (Kd Drawn0 Kept rd rdOf)
open Go.Proofs.YtgjlkplieoajlaaDoor.PSlotsTwins
set_option maxRecDepth 100000

theorem rmake_q (k s g : Int) (w : World) (hk0 : 1 ≤ k) (hk3 : k ≤ 3) (hs0 : 0 ≤ s) (hs1 : s < 1048576) (hg0 : 0 ≤ g) (hg1 : g < 1048576) :
    Calls Tryd.prog 42 #[.int .i64 k, .int .i64 s, .int .i64 g] w fun e w' => e = .returned (.int .i64 (mk k s g)) ∧ Below w.heap.size w w' :=
  (titheref03_Make.calls k s g _ w (show titheref03_Make.f k s g = some (mk k s g) by unfold titheref03_Make.f; rw [or_mk k s g hk0 hk3 hs0 hs1 hg0 hg1])).mono fun _ _ h => ⟨h.1, by obtain ⟨m, e⟩ := h.2.out; rw [e]; exact below_drewN' (Below.refl _ w) m⟩

theorem sure03_ok (w : World) : Calls Tryd.prog 13 #[] w fun e w' => e = .returned (.bool true) ∧ Below w.heap.size w w' := by
  go_enter Tryd.func13, Tryd.ntmps13
  go_wp2_with fail
  refine (snew_ok 1 2 w (by omega) (by omega) (by omega) (by omega)).mono ?_
  rintro e w1 ⟨t, g, cap, rfl, hT, ht, hg, hb⟩
  have HT := Lib.hid hT
  have HB := Lib.hid hb
  clear hT hb
  go_wp2_with fail
  have TK : Tk 1 2 (List.replicate 2 oneSl) := Tk.one (by omega) (by omega) (by omega) (by omega)
  refine (add_hit t g 2 cap 0 1 7 _ oneSl w1 HT.out TK rfl ⟨rfl, by decide⟩ (fun j y hj => by omega)).mono ?_
  rintro e w2 ⟨rfl, hT2, hc2⟩
  have HT2 := Lib.hid hT2
  have HB2 := Lib.hid (HB.out.trans (hc2.below HB.out.size (fun k hk => by rw [hk]; exact hg)))
  clear hT2 hc2 HT HB
  have TK2 := Lib.hid (TK.set 0 ⟨oneSl.f0, true, 7⟩ (by decide) (by decide) (fun _ => by decide))
  clear TK
  have e1 : mk 1 ((0 : Nat) : Int) oneSl.f0 = mk 1 0 1 := rfl
  rw [e1]
  clear e1
  have HG := Lib.hid (get_hit t g 2 cap 0 1 (mk 1 0 1) _ ⟨oneSl.f0, true, 7⟩ w2 HT2.out TK2.out ⟨rfl, rfl, rfl⟩)
  have HM := Lib.hid (fun W => rmake_q 1 0 1 W (by omega) (by omega) (by omega) (by omega) (by omega) (by omega))
  generalize mk 1 0 1 = h at HG HM ⊢
  go_wp2_with fail
  refine HG.out.mono ?_
  rintro e w3 ⟨rfl, m, hw⟩
  have HB3 := Lib.hid (show Below w.heap.size w w3 by rw [hw]; exact below_drewN' HB2.out m)
  clear hw HT2 HB2 HG
  go_wp2_with fail
  refine (HM.out _).mono ?_
  rintro e w4 ⟨rfl, hb4⟩
  have HB4 := Lib.hid (below_call HB3.out (Nat.le_refl _) hb4)
  clear hb4 HB3
  go_wp2
  go_ret
  exact ⟨rfl, HB4.out⟩

end Go.Proofs.YtgjlkplieoajlaaDoor
