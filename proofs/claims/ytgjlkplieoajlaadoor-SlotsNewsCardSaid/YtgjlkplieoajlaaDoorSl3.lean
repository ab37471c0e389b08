/- A table's Get, Set, Drop, by contract. -/
import Derived.Test.YtgjlkplieoajlaaDoorSl2
set_option linter.unusedVariables false
set_option linter.unusedSimpArgs false
namespace Go.Proofs.YtgjlkplieoajlaaDoor
open Go.RowKit
open Go.Proofs.YtgjlkplieoajlaaDoorW.PrintWords (Kd Drawn0 Kept rd rdOf)
open Go.Proofs.YtgjlkplieoajlaaDoor.PSlotsTwins
set_option maxRecDepth 100000

theorem get_hit (t g n cap i : Nat) (kind h : Int) (xs : List Sl) (x : Sl) (w : World) (H : TB w t g n cap kind xs) (hT : Tk kind n xs) (ha : At kind h xs i x) :
    Calls Tryd.prog 16 #[.pointer (some ⟨t, 0, none⟩), .int .i64 h] w fun e w' => e = .returned (.tuple #[.int .i64 x.f2, .nilIface]) ∧ ∃ m, w' = w.drewN m := by
  have F := Lib.hid (find_hit t g n cap i kind h xs x w H hT ha)
  have e2 := H.e2 ha.1
  clear H hT ha
  go_enter Tryd.func16, Tryd.ntmps16
  go_wp2_with fail
  refine F.out.mono ?_
  rintro e w' ⟨rfl, m, rfl⟩
  go_wp2
  go_ret2
  exact ⟨rfl, _, rfl⟩

theorem get_miss (t g n cap : Nat) (kind h : Int) (xs : List Sl) (w : World) (H : TB w t g n cap kind xs) (hT : Tk kind n xs) (ha : NoAt kind h xs) :
    Calls Tryd.prog 16 #[.pointer (some ⟨t, 0, none⟩), .int .i64 h] w fun e w' => e = .returned (.tuple #[.int .i64 0, .iface 85 (.int .i64 20)]) ∧ ∃ m, w' = w.drewN m := by
  have F := Lib.hid (find_miss t g n cap kind h xs w H hT ha)
  clear H hT ha
  go_enter Tryd.func16, Tryd.ntmps16
  go_wp2_with fail
  refine F.out.mono ?_
  rintro e w' ⟨rfl, m, rfl⟩
  go_wp2
  go_ret2
  exact ⟨rfl, _, rfl⟩

theorem set_hit (t g n cap i : Nat) (kind h v : Int) (xs : List Sl) (x : Sl) (w : World) (H : TB w t g n cap kind xs) (hT : Tk kind n xs) (ha : At kind h xs i x) :
    Calls Tryd.prog 17 #[.pointer (some ⟨t, 0, none⟩), .int .i64 h, .int .i64 v] w fun e w' => e = .returned .nilIface ∧ TB w' t g n cap kind (xs.set i ⟨x.f0, x.f1, v⟩) ∧ Chg (fun k => k = g) w w' := by
  have F := Lib.hid (find_hit t g n cap i kind h xs x w H hT ha)
  have e2 := H.e2 ha.1
  have f2 := H.f2 ha.1
  have HH := Lib.hid H
  have HA := Lib.hid ha
  clear H hT ha
  go_enter Tryd.func17, Tryd.ntmps17
  go_wp2_with fail
  refine F.out.mono ?_
  rintro e w' ⟨rfl, m, rfl⟩
  go_wp2
  go_ret
  exact ⟨rfl, (HH.out.drewN m).set HA.out.1 2 _ ⟨x.f0, x.f1, v⟩ (by omega) rfl, ((Chg.refl _ w).drewN m).setCell ⟨g, i * 3 + 2, none⟩ _ rfl⟩

theorem set_miss (t g n cap : Nat) (kind h v : Int) (xs : List Sl) (w : World) (H : TB w t g n cap kind xs) (hT : Tk kind n xs) (ha : NoAt kind h xs) :
    Calls Tryd.prog 17 #[.pointer (some ⟨t, 0, none⟩), .int .i64 h, .int .i64 v] w fun e w' => e = .returned (.iface 85 (.int .i64 20)) ∧ ∃ m, w' = w.drewN m := by
  have F := Lib.hid (find_miss t g n cap kind h xs w H hT ha)
  clear H hT ha
  go_enter Tryd.func17, Tryd.ntmps17
  go_wp2_with fail
  refine F.out.mono ?_
  rintro e w' ⟨rfl, m, rfl⟩
  go_wp2
  go_ret
  exact ⟨rfl, _, rfl⟩

theorem drop_miss (t g n cap : Nat) (kind h : Int) (xs : List Sl) (w : World) (H : TB w t g n cap kind xs) (hT : Tk kind n xs) (ha : NoAt kind h xs) :
    Calls Tryd.prog 14 #[.pointer (some ⟨t, 0, none⟩), .int .i64 h] w fun e w' => e = .returned (.iface 85 (.int .i64 20)) ∧ ∃ m, w' = w.drewN m := by
  have F := Lib.hid (find_miss t g n cap kind h xs w H hT ha)
  clear H hT ha
  go_enter Tryd.func14, Tryd.ntmps14
  go_wp2_with fail
  refine F.out.mono ?_
  rintro e w' ⟨rfl, m, rfl⟩
  go_wp2
  go_ret
  exact ⟨rfl, _, rfl⟩

theorem drop_hit (t g n cap i : Nat) (kind h : Int) (xs : List Sl) (x : Sl) (w : World) (H : TB w t g n cap kind xs) (hT : Tk kind n xs) (ha : At kind h xs i x) :
    Calls Tryd.prog 14 #[.pointer (some ⟨t, 0, none⟩), .int .i64 h] w fun e w' => e = .returned .nilIface ∧ TB w' t g n cap kind (xs.set i ⟨x.f0 + 1, false, 0⟩) ∧ Chg (fun k => k = g) w w' := by
  have F := Lib.hid (find_hit t g n cap i kind h xs x w H hT ha)
  have g1 := (hT.gen i x ha.1).1
  have g2 := (hT.gen i x ha.1).2
  have e0 := H.e0 ha.1
  have e1 := H.e1 ha.1
  have e2 := H.e2 ha.1
  have f0 := H.f0 ha.1
  have f1 := H.f1 ha.1
  have f2 := H.f2 ha.1
  have HH := Lib.hid H
  have HA := Lib.hid ha
  clear H hT ha
  go_enter Tryd.func14, Tryd.ntmps14
  go_wp2_with fail
  refine F.out.mono ?_
  rintro e w' ⟨rfl, m, rfl⟩
  go_wp2
  go_ret
  exact ⟨rfl, (HH.out.drewN m).set3 HA.out.1 ⟨x.f0 + 1, false, 0⟩, ((((Chg.refl (fun k => k = g) w).drewN m).setCell ⟨g, i * 3, none⟩ _ rfl).setCell ⟨g, i * 3 + 1, none⟩ _ rfl).setCell ⟨g, i * 3 + 2, none⟩ _ rfl⟩

end Go.Proofs.YtgjlkplieoajlaaDoor
