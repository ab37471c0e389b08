/- The walk of FixedTexts: the call returns true. -/
import Derived.Test.YtggcahcdhjnemaaDoorTx1
import Derived.Test.YtggcahcdhjnemaaDoorTx3
import Derived.Test.YtggcahcdhjnemaaDoorSure01
import Derived.Test.YtggcahcdhjnemaaDoorNum01
set_option linter.unusedVariables false
set_option linter.unusedSimpArgs false
namespace Go.Proofs.YtggcahcdhjnemaaDoor
open Go.RowKit
set_option maxRecDepth 100000

theorem rtextS (u : Nat) (s : ByteArray) (w : World) (h : u ≤ 1048576) (hs : s = ⟨(textL u).toArray⟩) :
    Calls Tryd.prog 47 #[.int .i64 u] w fun e w' => e = .returned (.tuple #[.string s, .int .i64 0]) ∧ Below w.heap.size w w' := by
  subst hs; exact rtext_ok u w h

theorem textE (u : Int) (w : World) (h : u < 0 ∨ 1048576 < u) :
    Calls Tryd.prog 46 #[.int .i64 u] w fun e w' => e = .returned (.tuple #[.string ⟨#[]⟩, .iface 83 (.int .i64 1)]) ∧ Below w.heap.size w w' :=
  (text_err u w h).mono fun e w' ⟨h1, h2⟩ => ⟨h1, h2 ▸ Below.refl _ w⟩

set_option maxHeartbeats 1000000 in
theorem texts_err (u m : Int) (w : World) (hL : Laid w) (hm : w.cell? ⟨1, 0, none⟩ = some (.int .i64 m)) (h : u < 0 ∨ 1048576 < u) :
    Calls Tryd.prog 11 #[.int .i64 u] w fun e w' => e = .returned (.bool true) ∧ Below w.heap.size w w' := by
  have HB : Below w.heap.size w w := Below.refl _ w
  replace hL : Laid w := hL
  go_enter Tryd.func11, Tryd.ntmps11
  go_wp2_with fail
  refine (textE u _ h).mono ?_
  rintro e w1 ⟨rfl, hb1⟩
  replace hm := keep hb1 hm
  replace hL := hL.below hb1
  replace HB := below_call HB (Nat.le_refl _) hb1
  clear hb1
  go_wp2_with fail
  refine (rtext_err u _ h).mono ?_
  rintro e w2 ⟨rfl, hb2⟩
  replace hm := keep hb2 hm
  replace hL := hL.below hb2
  replace HB := below_call HB (Nat.le_refl _) hb2
  clear hb2
  go_wp2_with fail
  refine (num01_err 1 _ hL).mono ?_
  rintro e w3 ⟨rfl, hb3⟩
  replace hm := keep hb3 hm
  replace hL := hL.below hb3
  replace HB := below_call HB (Nat.le_refl _) hb3
  clear hb3
  go_wp2_with fail
  refine (read_none m _ hm).mono ?_
  rintro e w4 ⟨rfl, hb4⟩
  replace hm := keep hb4 hm
  replace hL := hL.below hb4
  replace HB := below_call HB (Nat.le_refl _) hb4
  clear hb4
  go_wp2_with fail
  refine (sure01 _).mono ?_
  rintro e w5 ⟨rfl, hb5⟩
  replace hm := keep hb5 hm
  replace hL := hL.below hb5
  replace HB := below_call HB (Nat.le_refl _) hb5
  clear hb5
  go_wp2
  go_ret
  exact ⟨rfl, HB⟩

set_option maxHeartbeats 1000000 in
theorem texts_ok (u : Nat) (m : Int) (w : World) (hL : Laid w) (hm : w.cell? ⟨1, 0, none⟩ = some (.int .i64 m)) (h : u ≤ 1048576) :
    Calls Tryd.prog 11 #[.int .i64 u] w fun e w' => e = .returned (.bool true) ∧ Below w.heap.size w w' := by
  obtain ⟨s, hs⟩ : ∃ s : ByteArray, s = ⟨(textL u).toArray⟩ := ⟨_, rfl⟩
  have HS := Lib.hid hs
  clear hs
  have HB : Below w.heap.size w w := Below.refl _ w
  replace hL : Laid w := hL
  go_enter Tryd.func11, Tryd.ntmps11
  go_wp2_with fail
  refine (textS u s _ h HS.out).mono ?_
  rintro e w1 ⟨rfl, hb1⟩
  replace hm := keep hb1 hm
  replace hL := hL.below hb1
  replace HB := below_call HB (Nat.le_refl _) hb1
  clear hb1
  go_wp2_with fail
  refine (rtextS u s _ h HS.out).mono ?_
  rintro e w2 ⟨rfl, hb2⟩
  replace hm := keep hb2 hm
  replace hL := hL.below hb2
  replace HB := below_call HB (Nat.le_refl _) hb2
  clear hb2
  go_wp2_with fail
  refine (num01_nil _).mono ?_
  rintro e w3 ⟨rfl, hb3⟩
  replace hm := keep hb3 hm
  replace hL := hL.below hb3
  replace HB := below_call HB (Nat.le_refl _) hb3
  clear hb3
  go_wp2_with fail
  refine (read_ok u s m _ hm h HS.out).mono ?_
  rintro e w4 ⟨rfl, hb4⟩
  replace hm := keep hb4 hm
  replace hL := hL.below hb4
  replace HB := below_call HB (Nat.le_refl _) hb4
  clear hb4
  go_wp2_with fail
  refine (sure01 _).mono ?_
  rintro e w5 ⟨rfl, hb5⟩
  replace hm := keep hb5 hm
  replace hL := hL.below hb5
  replace HB := below_call HB (Nat.le_refl _) hb5
  clear hb5
  go_wp2
  go_ret
  exact ⟨rfl, HB⟩

theorem texts_any (u m : Int) (w : World) (hL : Laid w) (hm : w.cell? ⟨1, 0, none⟩ = some (.int .i64 m)) :
    Calls Tryd.prog 11 #[.int .i64 u] w fun e w' => e = .returned (.bool true) ∧ Below w.heap.size w w' := by
  by_cases h : u < 0 ∨ 1048576 < u
  · exact texts_err u m w hL hm h
  · obtain ⟨n, rfl⟩ : ∃ n : Nat, u = n := ⟨u.toNat, by omega⟩
    exact texts_ok n m w hL hm (by omega)

theorem texts_ex (u : Int) (w : World) (hL : Laid w) (hm : ∃ m, w.cell? ⟨1, 0, none⟩ = some (.int .i64 m)) :
    Calls Tryd.prog 11 #[.int .i64 u] w fun e w' => e = .returned (.bool true) ∧ Below w.heap.size w w' :=
  hm.elim fun m h => texts_any u m w hL h
end Go.Proofs.YtggcahcdhjnemaaDoor
