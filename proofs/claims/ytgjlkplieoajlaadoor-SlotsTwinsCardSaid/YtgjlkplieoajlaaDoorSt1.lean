/- The reference's Add, by a contract that leaves the table that came. -/
import Derived.Test.YtgjlkplieoajlaaDoorSn4
set_option linter.unusedVariables false
set_option linter.unusedSimpArgs false
namespace Go.Proofs.YtgjlkplieoajlaaDoor
open Go.RowKit
open Go.Proofs.YtgjlkplieoajlaaDoorW.PrintWords (Kd Drawn0 Kept rd rdOf)
open Go.Proofs.YtgjlkplieoajlaaDoor.PSlotsTwins
set_option maxRecDepth 100000

section
variable {w : World} {B n : Nat} {A1 : Option Addr} {c1 : Nat} {A2 : Option Addr} {c2 : Nat} {A3 : Option Addr} {c3 : Nat} {xs ys : List Sl} {kind : Int}

theorem rcopy_c (R : RT w B n A1 c1 A2 c2 A3 c3 xs) (hT : Tk kind n xs) :
    Calls Tryd.prog 80 #[.agg #[.int .i64 kind, .slice A1 n c1, .slice A2 n c2, .slice A3 n c3]] w fun e w' => ∃ g1 d1 g2 d2 g3 d3, e = .returned (.agg #[.int .i64 kind, .slice (some ⟨g1, 0, none⟩) n d1, .slice (some ⟨g2, 0, none⟩) n d2, .slice (some ⟨g3, 0, none⟩) n d3]) ∧ RT w' w.heap.size n (some ⟨g1, 0, none⟩) d1 (some ⟨g2, 0, none⟩) d2 (some ⟨g3, 0, none⟩) d3 xs ∧ Below w.heap.size w w' := by
  have l1 : (gens xs).length = n := by simpa using R.len
  have l2 : (tks xs).length = n := by simpa using R.len
  have l3 : (ths xs).length = n := by simpa using R.len
  have n0 := hT.n0
  have := titheref03_Copy.calls kind A1 c1 (gens xs) A2 c2 (tks xs) A3 c3 (ths xs) kind (gens xs) (tks xs) (ths xs) w (by rw [l1]; exact R.rc1.1) (by rw [l1]; exact R.rc1.2) (by rw [l2]; exact R.rc2.1) (by rw [l2]; exact R.rc2.2) (by rw [l3]; exact R.rc3.1) (by rw [l3]; exact R.rc3.2) (rcopy_f hT)
  rw [l1, l2, l3] at this
  refine this.mono ?_
  rintro e w' ⟨v1, v2, v3, rfl, r1, r2, r3, hb⟩
  obtain ⟨B1, d1, B2, d2, B3, d3, rfl, rfl, rfl, hR⟩ := RT.of (n := n) hb.size R.len (Kd.R_mono r1 (fun _ h => ⟨trivial, h⟩)) r2 r3
  obtain ⟨g1, e1', ee1, -⟩ := Kd.R_form hR.r1 (by rw [l1]; omega)
  obtain ⟨g2, e2', ee2, -⟩ := Kd.R_form hR.r2 (by rw [l2]; omega)
  obtain ⟨g3, e3', ee3, -⟩ := Kd.R_form hR.r3 (by rw [l3]; omega)
  simp only [Value.slice.injEq] at ee1 ee2 ee3
  obtain ⟨rfl, -, rfl⟩ := ee1
  obtain ⟨rfl, -, rfl⟩ := ee2
  obtain ⟨rfl, -, rfl⟩ := ee3
  exact ⟨g1, _, g2, _, g3, _, rfl, hR, hb⟩

theorem rfree_c (R : RT w B n A1 c1 A2 c2 A3 c3 xs) (r : Int) (E : titheref03_Free.f 5000 kind (gens xs) (tks xs) (ths xs) = some r) :
    Calls Tryd.prog 79 #[.agg #[.int .i64 kind, .slice A1 n c1, .slice A2 n c2, .slice A3 n c3]] w fun e w' => e = .returned (.int .i64 r) ∧ Below w.heap.size w w' := by
  have l1 : (gens xs).length = n := by simpa using R.len
  have l2 : (tks xs).length = n := by simpa using R.len
  have l3 : (ths xs).length = n := by simpa using R.len
  have := titheref03_Free.calls 5000 kind A1 c1 (gens xs) A2 c2 (tks xs) A3 c3 (ths xs) r w (by rw [l1]; exact R.rc1.1) (by rw [l1]; exact R.rc1.2) (by rw [l2]; exact R.rc2.1) (by rw [l2]; exact R.rc2.2) (by rw [l3]; exact R.rc3.1) (by rw [l3]; exact R.rc3.2) E
  rw [l1, l2, l3] at this
  exact this
theorem rfind_c (R : RT w B n A1 c1 A2 c2 A3 c3 xs) (h r : Int) (E : titheref03_Find.f 5000 kind (gens xs) (tks xs) (ths xs) h = some r) :
    Calls Tryd.prog 81 #[.agg #[.int .i64 kind, .slice A1 n c1, .slice A2 n c2, .slice A3 n c3], .int .i64 h] w fun e w' => e = .returned (.int .i64 r) ∧ Below w.heap.size w w' := by
  have l1 : (gens xs).length = n := by simpa using R.len
  have l2 : (tks xs).length = n := by simpa using R.len
  have l3 : (ths xs).length = n := by simpa using R.len
  have := titheref03_Find.calls 5000 kind A1 c1 (gens xs) A2 c2 (tks xs) A3 c3 (ths xs) h r w (by rw [l1]; exact R.rc1.1) (by rw [l1]; exact R.rc1.2) (by rw [l2]; exact R.rc2.1) (by rw [l2]; exact R.rc2.2) (by rw [l3]; exact R.rc3.1) (by rw [l3]; exact R.rc3.2) E
  rw [l1, l2, l3] at this
  exact this

/-- What Add, Set, Drop of the reference leave: the table that came is as it was. -/
def RKept (w : World) (B n : Nat) (kind : Int) (ys : List Sl) (tail : List Value) (e : Ending) (w' : World) : Prop :=
  ∃ B1 d1 B2 d2 B3 d3, e = .returned (.tuple (#[.agg #[.int .i64 kind, .slice B1 n d1, .slice B2 n d2, .slice B3 n d3]] ++ tail.toArray)) ∧ RT w' B n B1 d1 B2 d2 B3 d3 ys ∧ Below w.heap.size w w'

set_option maxHeartbeats 1000000 in
theorem rset_none_b (R : RT w B n A1 c1 A2 c2 A3 c3 xs) (hT : Tk kind n xs) (h v : Int) (hno : NoAt kind h xs) :
    Calls Tryd.prog 47 #[.agg #[.int .i64 kind, .slice A1 n c1, .slice A2 n c2, .slice A3 n c3], .int .i64 h, .int .i64 v] w (RKept w B n kind xs [.int .i64 20]) := by
  have E : titheref03_Find.f 5000 kind (gens xs) (tks xs) (ths xs) h = some (-1) := rfind_none hT hno n 5000 0 (by omega) (by have := hT.n1; omega)
  have V0 := (VarT.new w n kind A1 c1 A2 c2 A3 c3).below ((Below.refl _ _).alloc (Nat.le_refl _) (.cells #[.int .i64 0, .slice none 0 0, .slice none 0 0, .slice none 0 0] 30))
  have Z0 := VarT.new (w.alloc (.cells #[.int .i64 kind, .slice A1 n c1, .slice A2 n c2, .slice A3 n c3] 30)) 0 0 none 0 none 0 none 0
  have B0 := below_alloc (below_alloc (Below.refl w.heap.size w) (Nat.le_refl _) (.cells #[.int .i64 kind, .slice A1 n c1, .slice A2 n c2, .slice A3 n c3] 30)) (Nat.le_refl _) (.cells #[.int .i64 0, .slice none 0 0, .slice none 0 0, .slice none 0 0] 30)
  rw [show (w.alloc (.cells #[.int .i64 kind, .slice A1 n c1, .slice A2 n c2, .slice A3 n c3] 30)).heap.size = w.heap.size + 1 by simp] at Z0
  have HV := Lib.hid V0
  have HZ := Lib.hid Z0
  have HB := Lib.hid B0
  have HR := Lib.hid (R.below B0)
  clear V0 Z0 B0 R hno hT
  go_enter Tryd.func47, Tryd.ntmps47
  go_wp2_with fail
  refine (rfind_c HR.out h (-1) E).mono ?_
  rintro e w1 ⟨rfl, hb⟩
  have HV1 := Lib.hid (HV.out.below hb)
  have HZ1 := Lib.hid (HZ.out.below hb)
  have HB1 := Lib.hid (below_call HB.out (Nat.le_refl _) hb)
  have HR1 := Lib.hid (HR.out.below hb)
  clear hb HV HZ HB HR E
  obtain ⟨r0, r1, r2, r3⟩ := HV1.out.c
  obtain ⟨z0, z1, z2, z3⟩ := HZ1.out.c
  have f0 := HZ1.out.f 0
  have f1 := HZ1.out.f 1
  have f2 := HZ1.out.f 2
  have f3 := HZ1.out.f 3
  go_wp2
  refine bodyPost_ret (v := .tuple #[.agg #[.int .i64 kind, .slice A1 n c1, .slice A2 n c2, .slice A3 n c3], .int .i64 20]) (by simp [results, Tryd.results47, go_sem, z0, z1, z2, z3]) rfl ⟨_, _, _, _, _, _, rfl, HR1.out.chg (chg_set4 w1 (w.heap.size + 1) _ _ _ _) (fun k hk => by obtain rfl : k = _ := hk; exact HR1.out.ne_blk HZ1.out), HB1.out.trans ((chg_set4 w1 (w.heap.size + 1) _ _ _ _).below HB1.out.size (fun k hk => by rw [hk]; omega))⟩
end
end Go.Proofs.YtgjlkplieoajlaaDoor
