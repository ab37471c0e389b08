/- The reference's Add, Set, Drop, by contracts that leave the table that came. Printed by gen_sl_keep.py (this repo's). -/
import Derived.Test.YtgjlkplieoajlaaDoorSt1
set_option linter.unusedVariables false
set_option linter.unusedSimpArgs false
namespace Go.Proofs.YtgjlkplieoajlaaDoor
open Go.RowKit
open Go.Proofs.YtgjlkplieoajlaaDoorW.PrintWords (Kd Drawn0 Kept rd rdOf)
open Go.Proofs.YtgjlkplieoajlaaDoor.PSlotsTwins
set_option maxRecDepth 100000

section
variable {w : World} {B n : Nat} {A1 : Option Addr} {c1 : Nat} {A2 : Option Addr} {c2 : Nat} {A3 : Option Addr} {c3 : Nat} {xs ys : List Sl} {kind : Int}

set_option maxHeartbeats 1000000 in
theorem rdrop_none_b (R : RT w B n A1 c1 A2 c2 A3 c3 xs) (hT : Tk kind n xs) (h : Int) (hno : NoAt kind h xs) :
    Calls Tryd.prog 48 #[.agg #[.int .i64 kind, .slice A1 n c1, .slice A2 n c2, .slice A3 n c3], .int .i64 h] w (RKept w B n kind xs [.int .i64 20]) := by
  have E : titheref03_Find.f 5000 kind (gens xs) (tks xs) (ths xs) h = some (-1) := rfind_none hT hno n 5000 0 (by omega) (by have := hT.n1; omega)
  have V0 := (VarT.new w n kind A1 c1 A2 c2 A3 c3).below ((Below.refl _ _).alloc (Nat.le_refl _) (.cells #[.int .i64 0, .slice none 0 0, .slice none 0 0, .slice none 0 0] 30))
  have Z0 := VarT.new (w.alloc (.cells #[.int .i64 kind, .slice A1 n c1, .slice A2 n c2, .slice A3 n c3] 30)) 0 0 none 0 none 0 none 0
  have B0 := below_alloc (below_alloc (Below.refl w.heap.size w) (Nat.le_refl _) (.cells #[.int .i64 kind, .slice A1 n c1, .slice A2 n c2, .slice A3 n c3] 30)) (Nat.le_refl _) (.cells #[.int .i64 0, .slice none 0 0, .slice none 0 0, .slice none 0 0] 30)
  rw [show (w.alloc (.cells #[.int .i64 kind, .slice A1 n c1, .slice A2 n c2, .slice A3 n c3] 30)).heap.size = w.heap.size + 1 by simp] at Z0
  have HV := Lib.hid V0
  have HZ := Lib.hid Z0
  have HB := Lib.hid B0
  have HR := Lib.hid (R.below B0)
  clear V0 Z0 B0 R hno hT
  go_enter Tryd.func48, Tryd.ntmps48
  go_wp2_with fail
  refine (rfind_c HR.out h (-1) E).mono ?_
  rintro e w1 ⟨rfl, hb⟩
  have HV1 := Lib.hid (HV.out.below hb)
  have HZ1 := Lib.hid (HZ.out.below hb)
  have HB1 := Lib.hid (below_call HB.out (Nat.le_refl _) hb)
  have HR1 := Lib.hid (HR.out.below hb)
  clear hb HV HZ HB HR E
  obtain ⟨r0, r1, r2, r3⟩ := HV1.out.c
  obtain ⟨z0, z1, z2, z3⟩ := HZ1.out.c
  have f0 := HZ1.out.f 0
  have f1 := HZ1.out.f 1
  have f2 := HZ1.out.f 2
  have f3 := HZ1.out.f 3
  go_wp2
  refine bodyPost_ret (v := .tuple #[.agg #[.int .i64 kind, .slice A1 n c1, .slice A2 n c2, .slice A3 n c3], .int .i64 20]) (by simp [results, Tryd.results48, go_sem, z0, z1, z2, z3]) rfl ⟨_, _, _, _, _, _, rfl, HR1.out.chg (chg_set4 w1 (w.heap.size + 1) _ _ _ _) (fun k hk => by obtain rfl : k = _ := hk; exact HR1.out.ne_blk HZ1.out), HB1.out.trans ((chg_set4 w1 (w.heap.size + 1) _ _ _ _).below HB1.out.size (fun k hk => by rw [hk]; omega))⟩

set_option maxHeartbeats 1000000 in
theorem radd_none_b (R : RT w B n A1 c1 A2 c2 A3 c3 xs) (hT : Tk kind n xs) (v : Int) (hno : ∀ (j : Nat) (y : Sl), xs[j]? = some y → ¬ FreeSl y) :
    Calls Tryd.prog 45 #[.agg #[.int .i64 kind, .slice A1 n c1, .slice A2 n c2, .slice A3 n c3], .int .i64 v] w (RKept w B n kind xs [.int .i64 0, .int .i64 30]) := by
  have E : titheref03_Free.f 5000 kind (gens xs) (tks xs) (ths xs) = some (-1) := rfree_none hT hno n 5000 0 (by omega) (by have := hT.n1; omega)
  have V0 := (VarT.new w n kind A1 c1 A2 c2 A3 c3).below ((Below.refl _ _).alloc (Nat.le_refl _) (.cells #[.int .i64 0, .slice none 0 0, .slice none 0 0, .slice none 0 0] 30))
  have Z0 := VarT.new (w.alloc (.cells #[.int .i64 kind, .slice A1 n c1, .slice A2 n c2, .slice A3 n c3] 30)) 0 0 none 0 none 0 none 0
  have B0 := below_alloc (below_alloc (Below.refl w.heap.size w) (Nat.le_refl _) (.cells #[.int .i64 kind, .slice A1 n c1, .slice A2 n c2, .slice A3 n c3] 30)) (Nat.le_refl _) (.cells #[.int .i64 0, .slice none 0 0, .slice none 0 0, .slice none 0 0] 30)
  rw [show (w.alloc (.cells #[.int .i64 kind, .slice A1 n c1, .slice A2 n c2, .slice A3 n c3] 30)).heap.size = w.heap.size + 1 by simp] at Z0
  have HV := Lib.hid V0
  have HZ := Lib.hid Z0
  have HB := Lib.hid B0
  have HR := Lib.hid (R.below B0)
  clear V0 Z0 B0 R hno hT
  go_enter Tryd.func45, Tryd.ntmps45
  go_wp2_with fail
  refine (rfree_c HR.out (-1) E).mono ?_
  rintro e w1 ⟨rfl, hb⟩
  have HV1 := Lib.hid (HV.out.below hb)
  have HZ1 := Lib.hid (HZ.out.below hb)
  have HB1 := Lib.hid (below_call HB.out (Nat.le_refl _) hb)
  have HR1 := Lib.hid (HR.out.below hb)
  clear hb HV HZ HB HR E
  obtain ⟨r0, r1, r2, r3⟩ := HV1.out.c
  obtain ⟨z0, z1, z2, z3⟩ := HZ1.out.c
  have f0 := HZ1.out.f 0
  have f1 := HZ1.out.f 1
  have f2 := HZ1.out.f 2
  have f3 := HZ1.out.f 3
  go_wp2
  refine bodyPost_ret (v := .tuple #[.agg #[.int .i64 kind, .slice A1 n c1, .slice A2 n c2, .slice A3 n c3], .int .i64 0, .int .i64 30]) (by simp [results, Tryd.results45, go_sem, z0, z1, z2, z3]) rfl ⟨_, _, _, _, _, _, rfl, HR1.out.chg (chg_set4 w1 (w.heap.size + 1) _ _ _ _) (fun k hk => by obtain rfl : k = _ := hk; exact HR1.out.ne_blk HZ1.out), HB1.out.trans ((chg_set4 w1 (w.heap.size + 1) _ _ _ _).below HB1.out.size (fun k hk => by rw [hk]; omega))⟩

set_option maxHeartbeats 1000000 in
theorem rset_hit_b (R : RT w B n A1 c1 A2 c2 A3 c3 xs) (hT : Tk kind n xs) (h v : Int) (i : Nat) (x : Sl) (ha : At kind h xs i x) :
    Calls Tryd.prog 47 #[.agg #[.int .i64 kind, .slice A1 n c1, .slice A2 n c2, .slice A3 n c3], .int .i64 h, .int .i64 v] w (RKept w B n kind (xs.set i ⟨x.f0, x.f1, v⟩) [.int .i64 0]) := by
  have HX := Lib.hid ha.1
  have E : titheref03_Find.f 5000 kind (gens xs) (tks xs) (ths xs) h = some (i : Int) := rfind_hit hT ha i 5000 0 (by omega) (by have := (List.getElem?_eq_some_iff.1 ha.1).1; have := R.len; have := hT.n1; omega)
  have V0 := (VarT.new w n kind A1 c1 A2 c2 A3 c3).below ((Below.refl _ _).alloc (Nat.le_refl _) (.cells #[.int .i64 0, .slice none 0 0, .slice none 0 0, .slice none 0 0] 30))
  have Z0 := VarT.new (w.alloc (.cells #[.int .i64 kind, .slice A1 n c1, .slice A2 n c2, .slice A3 n c3] 30)) 0 0 none 0 none 0 none 0
  have B0 := below_alloc (below_alloc (Below.refl w.heap.size w) (Nat.le_refl _) (.cells #[.int .i64 kind, .slice A1 n c1, .slice A2 n c2, .slice A3 n c3] 30)) (Nat.le_refl _) (.cells #[.int .i64 0, .slice none 0 0, .slice none 0 0, .slice none 0 0] 30)
  rw [show (w.alloc (.cells #[.int .i64 kind, .slice A1 n c1, .slice A2 n c2, .slice A3 n c3] 30)).heap.size = w.heap.size + 1 by simp] at Z0
  have HV := Lib.hid V0
  have HZ := Lib.hid Z0
  have HB := Lib.hid B0
  have HR := Lib.hid (R.below B0)
  have HTK := Lib.hid hT
  have hBw := R.sz
  clear V0 Z0 B0 R hT
  go_enter Tryd.func47, Tryd.ntmps47
  go_wp2_with fail
  refine (rfind_c HR.out h (i : Int) E).mono ?_
  rintro e w1 ⟨rfl, hb⟩
  have HV1 := Lib.hid (HV.out.below hb)
  have HZ1 := Lib.hid (HZ.out.below hb)
  have HB1 := Lib.hid (below_call HB.out (Nat.le_refl _) hb)
  have HR1 := Lib.hid (HR.out.below hb)
  have hs1 := hb.size
  have hs0 := HZ.out.lt
  clear hb HV HZ HB HR E
  obtain ⟨r0, r1, r2, r3⟩ := HV1.out.c
  go_wp2_with fail
  refine (rcopy_c HR1.out HTK.out).mono ?_
  rintro e w2 ⟨g1, d1, g2, d2, g3, d3, rfl, hR2, hb2⟩
  have HV2 := Lib.hid (HV1.out.below hb2)
  have HZ2 := Lib.hid (HZ1.out.below hb2)
  have HB2 := Lib.hid (below_call HB1.out (Nat.le_refl _) hb2)
  have HR2 := Lib.hid hR2
  have hg1 : w.heap.size + 1 < g1 := by have := Kd.R_base hR2.r1 g1 rfl; omega
  have hg2 : w.heap.size + 1 < g2 := by have := Kd.R_base hR2.r2 g2 rfl; omega
  have hg3 : w.heap.size + 1 < g3 := by have := Kd.R_base hR2.r3 g3 rfl; omega
  have hl1 : g1 < w2.heap.size := Kd.R_lt hR2.r1 g1 rfl
  have hl2 : g2 < w2.heap.size := Kd.R_lt hR2.r2 g2 rfl
  have hl3 : g3 < w2.heap.size := Kd.R_lt hR2.r3 g3 rfl
  have hin : i < n := by have := (List.getElem?_eq_some_iff.1 HX.out).1; have := HR2.out.len; omega
  have hlz := HZ2.out.lt
  have s1 : w2.cell? ⟨g1, i, none⟩ = some (.int .i64 x.f0) := int_cell HR2.out.r1 (by rw [List.getElem?_map, HX.out]; rfl)
  have s2 : w2.cell? ⟨g2, i, none⟩ = some (.bool x.f1) := bool_cell HR2.out.r2 (by rw [List.getElem?_map, HX.out]; rfl)
  have s3 : w2.cell? ⟨g3, i, none⟩ = some (.int .i64 x.f2) := int_cell HR2.out.r3 (by rw [List.getElem?_map, HX.out]; rfl)
  have y1 := HR2.out.fz1 i
  have y2 := HR2.out.fz2 i
  have y3 := HR2.out.fz3 i
  clear hR2 hb2 HV1 HZ1 HB1 HR1 r0 r1 r2 r3
  obtain ⟨r0, r1, r2, r3⟩ := HV2.out.c
  obtain ⟨z0, z1, z2, z3⟩ := HZ2.out.c
  have f0 := HZ2.out.f 0
  have f1 := HZ2.out.f 1
  have f2 := HZ2.out.f 2
  have f3 := HZ2.out.f 3
  go_wp2
  refine bodyPost_ret (v := .tuple #[.agg #[.int .i64 kind, .slice (some ⟨g1, 0, none⟩) n d1, .slice (some ⟨g2, 0, none⟩) n d2, .slice (some ⟨g3, 0, none⟩) n d3], .int .i64 0]) (by simp [results, Tryd.results47, go_sem, z0, z1, z2, z3, hlz]) rfl ?_
  have hB1 : B ≤ w1.heap.size := by omega
  have RX := HR2.out.set3 HX.out v
  have CX := HB2.out.setCell (p := ⟨g3, i, none⟩) (by show w.heap.size ≤ g3; omega) (.int .i64 v)
  have RY := RX.chg (chg_set4 _ (w.heap.size + 1) (.int .i64 kind) (.slice (some ⟨g1, 0, none⟩) n d1) (.slice (some ⟨g2, 0, none⟩) n d2) (.slice (some ⟨g3, 0, none⟩) n d3)) (fun k hk ho => by have e : k = w.heap.size + 1 := hk; have := (RX.base ho).1; omega)
  have CY := CX.trans ((chg_set4 _ (w.heap.size + 1) (.int .i64 kind) (.slice (some ⟨g1, 0, none⟩) n d1) (.slice (some ⟨g2, 0, none⟩) n d2) (.slice (some ⟨g3, 0, none⟩) n d3)).below CX.size (fun k hk => by have e : k = w.heap.size + 1 := hk; omega))
  exact ⟨_, _, _, _, _, _, rfl, (RY.below ((Below.refl _ _).alloc (Nat.le_refl _) _)).lower hB1, below_alloc CY (Nat.le_refl _) _⟩

set_option maxHeartbeats 1000000 in
theorem rdrop_hit_b (R : RT w B n A1 c1 A2 c2 A3 c3 xs) (hT : Tk kind n xs) (h : Int) (i : Nat) (x : Sl) (ha : At kind h xs i x) :
    Calls Tryd.prog 48 #[.agg #[.int .i64 kind, .slice A1 n c1, .slice A2 n c2, .slice A3 n c3], .int .i64 h] w (RKept w B n kind (xs.set i ⟨x.f0 + 1, false, 0⟩) [.int .i64 0]) := by
  have HX := Lib.hid ha.1
  have hgx := hT.gen i x ha.1
  have E : titheref03_Find.f 5000 kind (gens xs) (tks xs) (ths xs) h = some (i : Int) := rfind_hit hT ha i 5000 0 (by omega) (by have := (List.getElem?_eq_some_iff.1 ha.1).1; have := R.len; have := hT.n1; omega)
  have V0 := (VarT.new w n kind A1 c1 A2 c2 A3 c3).below ((Below.refl _ _).alloc (Nat.le_refl _) (.cells #[.int .i64 0, .slice none 0 0, .slice none 0 0, .slice none 0 0] 30))
  have Z0 := VarT.new (w.alloc (.cells #[.int .i64 kind, .slice A1 n c1, .slice A2 n c2, .slice A3 n c3] 30)) 0 0 none 0 none 0 none 0
  have B0 := below_alloc (below_alloc (Below.refl w.heap.size w) (Nat.le_refl _) (.cells #[.int .i64 kind, .slice A1 n c1, .slice A2 n c2, .slice A3 n c3] 30)) (Nat.le_refl _) (.cells #[.int .i64 0, .slice none 0 0, .slice none 0 0, .slice none 0 0] 30)
  rw [show (w.alloc (.cells #[.int .i64 kind, .slice A1 n c1, .slice A2 n c2, .slice A3 n c3] 30)).heap.size = w.heap.size + 1 by simp] at Z0
  have HV := Lib.hid V0
  have HZ := Lib.hid Z0
  have HB := Lib.hid B0
  have HR := Lib.hid (R.below B0)
  have HTK := Lib.hid hT
  have hBw := R.sz
  clear V0 Z0 B0 R hT
  go_enter Tryd.func48, Tryd.ntmps48
  go_wp2_with fail
  refine (rfind_c HR.out h (i : Int) E).mono ?_
  rintro e w1 ⟨rfl, hb⟩
  have HV1 := Lib.hid (HV.out.below hb)
  have HZ1 := Lib.hid (HZ.out.below hb)
  have HB1 := Lib.hid (below_call HB.out (Nat.le_refl _) hb)
  have HR1 := Lib.hid (HR.out.below hb)
  have hs1 := hb.size
  have hs0 := HZ.out.lt
  clear hb HV HZ HB HR E
  obtain ⟨r0, r1, r2, r3⟩ := HV1.out.c
  go_wp2_with fail
  refine (rcopy_c HR1.out HTK.out).mono ?_
  rintro e w2 ⟨g1, d1, g2, d2, g3, d3, rfl, hR2, hb2⟩
  have HV2 := Lib.hid (HV1.out.below hb2)
  have HZ2 := Lib.hid (HZ1.out.below hb2)
  have HB2 := Lib.hid (below_call HB1.out (Nat.le_refl _) hb2)
  have HR2 := Lib.hid hR2
  have hg1 : w.heap.size + 1 < g1 := by have := Kd.R_base hR2.r1 g1 rfl; omega
  have hg2 : w.heap.size + 1 < g2 := by have := Kd.R_base hR2.r2 g2 rfl; omega
  have hg3 : w.heap.size + 1 < g3 := by have := Kd.R_base hR2.r3 g3 rfl; omega
  have hl1 : g1 < w2.heap.size := Kd.R_lt hR2.r1 g1 rfl
  have hl2 : g2 < w2.heap.size := Kd.R_lt hR2.r2 g2 rfl
  have hl3 : g3 < w2.heap.size := Kd.R_lt hR2.r3 g3 rfl
  have hin : i < n := by have := (List.getElem?_eq_some_iff.1 HX.out).1; have := HR2.out.len; omega
  have hlz := HZ2.out.lt
  have s1 : w2.cell? ⟨g1, i, none⟩ = some (.int .i64 x.f0) := int_cell HR2.out.r1 (by rw [List.getElem?_map, HX.out]; rfl)
  have s2 : w2.cell? ⟨g2, i, none⟩ = some (.bool x.f1) := bool_cell HR2.out.r2 (by rw [List.getElem?_map, HX.out]; rfl)
  have s3 : w2.cell? ⟨g3, i, none⟩ = some (.int .i64 x.f2) := int_cell HR2.out.r3 (by rw [List.getElem?_map, HX.out]; rfl)
  have y1 := HR2.out.fz1 i
  have y2 := HR2.out.fz2 i
  have y3 := HR2.out.fz3 i
  clear hR2 hb2 HV1 HZ1 HB1 HR1 r0 r1 r2 r3
  obtain ⟨r0, r1, r2, r3⟩ := HV2.out.c
  obtain ⟨z0, z1, z2, z3⟩ := HZ2.out.c
  have f0 := HZ2.out.f 0
  have f1 := HZ2.out.f 1
  have f2 := HZ2.out.f 2
  have f3 := HZ2.out.f 3
  have hn12 : g1 ≠ g2 := fun e => by rcases own_ne_types (Kd.own_of_R HR2.out.r1) (Kd.own_of_R HR2.out.r2) (by decide) with h | h
                                     · cases h
                                     · exact h (by rw [e]; rfl)
  have hn13 : g1 ≠ g3 := fun e => HR2.out.ne g1 rfl (by rw [e]; rfl)
  have hn32 : g3 ≠ g2 := fun e => by rcases own_ne_types (Kd.own_of_R HR2.out.r3) (Kd.own_of_R HR2.out.r2) (by decide) with h | h
                                     · cases h
                                     · exact h (by rw [e]; rfl)
  go_wp2
  refine bodyPost_ret (v := .tuple #[.agg #[.int .i64 kind, .slice (some ⟨g1, 0, none⟩) n d1, .slice (some ⟨g2, 0, none⟩) n d2, .slice (some ⟨g3, 0, none⟩) n d3], .int .i64 0]) (by simp [results, Tryd.results48, go_sem, z0, z1, z2, z3, hlz]) rfl ?_
  have hB1 : B ≤ w1.heap.size := by omega
  have RX := show RT (((w2.setCell ⟨g2, i, none⟩ (.bool false)).setCell ⟨g1, i, none⟩ (.int .i64 (x.f0 + 1))).setCell ⟨g3, i, none⟩ (.int .i64 0)) w1.heap.size n (some ⟨g1, 0, none⟩) d1 (some ⟨g2, 0, none⟩) d2 (some ⟨g3, 0, none⟩) d3 (xs.set i ⟨x.f0 + 1, false, 0⟩) by
      have hil : i < xs.length := (List.getElem?_eq_some_iff.1 HX.out).1
      have a1 := HR2.out.set2 HX.out false
      have a2 := a1.set1 (x := ⟨x.f0, false, x.f2⟩) (List.getElem?_set_self hil) (x.f0 + 1)
      have a3 := a2.set3 (x := ⟨x.f0 + 1, false, x.f2⟩) (by rw [List.set_set]; exact List.getElem?_set_self hil) 0
      rw [List.set_set, List.set_set] at a3
      exact a3
  have CX := ((HB2.out.setCell (p := ⟨g2, i, none⟩) (by show w.heap.size ≤ g2; omega) (.bool false)).setCell (p := ⟨g1, i, none⟩) (by show w.heap.size ≤ g1; omega) (.int .i64 (x.f0 + 1))).setCell (p := ⟨g3, i, none⟩) (by show w.heap.size ≤ g3; omega) (.int .i64 0)
  have RY := RX.chg (chg_set4 _ (w.heap.size + 1) (.int .i64 kind) (.slice (some ⟨g1, 0, none⟩) n d1) (.slice (some ⟨g2, 0, none⟩) n d2) (.slice (some ⟨g3, 0, none⟩) n d3)) (fun k hk ho => by have e : k = w.heap.size + 1 := hk; have := (RX.base ho).1; omega)
  have CY := CX.trans ((chg_set4 _ (w.heap.size + 1) (.int .i64 kind) (.slice (some ⟨g1, 0, none⟩) n d1) (.slice (some ⟨g2, 0, none⟩) n d2) (.slice (some ⟨g3, 0, none⟩) n d3)).below CX.size (fun k hk => by have e : k = w.heap.size + 1 := hk; omega))
  exact ⟨_, _, _, _, _, _, rfl, (RY.below ((Below.refl _ _).alloc (Nat.le_refl _) _)).lower hB1, below_alloc CY (Nat.le_refl _) _⟩

set_option maxHeartbeats 8000000 in
theorem radd_hit_b (R : RT w B n A1 c1 A2 c2 A3 c3 xs) (hT : Tk kind n xs) (v : Int) (i : Nat) (x : Sl) (hx : xs[i]? = some x) (hf : FreeSl x) (hfi : ∀ (j : Nat) (y : Sl), j < i → xs[j]? = some y → ¬ FreeSl y) :
    Calls Tryd.prog 45 #[.agg #[.int .i64 kind, .slice A1 n c1, .slice A2 n c2, .slice A3 n c3], .int .i64 v] w (RKept w B n kind (xs.set i ⟨x.f0, true, v⟩) [.int .i64 (mk kind i x.f0), .int .i64 0]) := by
  have HX := Lib.hid hx
  obtain ⟨ga, ca, ea, -⟩ := Kd.R_form R.r1 (by have := (List.getElem?_eq_some_iff.1 hx).1; simp; omega)
  simp only [Value.slice.injEq] at ea
  obtain ⟨rfl, -, rfl⟩ := ea
  have hga : ga < w.heap.size := Kd.R_lt R.r1 ga rfl
  have HO := Lib.hid (show w.cell? ⟨ga, i, none⟩ = some (.int .i64 x.f0) from int_cell R.r1 (by rw [List.getElem?_map, hx]; rfl))
  have HGX := Lib.hid (hT.gen i x hx)
  have E : titheref03_Free.f 5000 kind (gens xs) (tks xs) (ths xs) = some (i : Int) := rfree_hit hT hx hf hfi i 5000 0 (by omega) (by have := (List.getElem?_eq_some_iff.1 hx).1; have := R.len; have := hT.n1; omega)
  have V0 := (VarT.new w n kind (some ⟨ga, 0, none⟩) c1 A2 c2 A3 c3).below ((Below.refl _ _).alloc (Nat.le_refl _) (.cells #[.int .i64 0, .slice none 0 0, .slice none 0 0, .slice none 0 0] 30))
  have Z0 := VarT.new (w.alloc (.cells #[.int .i64 kind, .slice (some ⟨ga, 0, none⟩) n c1, .slice A2 n c2, .slice A3 n c3] 30)) 0 0 none 0 none 0 none 0
  have B0 := below_alloc (below_alloc (Below.refl w.heap.size w) (Nat.le_refl _) (.cells #[.int .i64 kind, .slice (some ⟨ga, 0, none⟩) n c1, .slice A2 n c2, .slice A3 n c3] 30)) (Nat.le_refl _) (.cells #[.int .i64 0, .slice none 0 0, .slice none 0 0, .slice none 0 0] 30)
  rw [show (w.alloc (.cells #[.int .i64 kind, .slice (some ⟨ga, 0, none⟩) n c1, .slice A2 n c2, .slice A3 n c3] 30)).heap.size = w.heap.size + 1 by simp] at Z0
  have HV := Lib.hid V0
  have HZ := Lib.hid Z0
  have HB := Lib.hid B0
  have HR := Lib.hid (R.below B0)
  have HTK := Lib.hid hT
  have hBw := R.sz
  clear V0 Z0 B0 R hT
  go_enter Tryd.func45, Tryd.ntmps45
  go_wp2_with fail
  refine (rfree_c HR.out (i : Int) E).mono ?_
  rintro e w1 ⟨rfl, hb⟩
  have HV1 := Lib.hid (HV.out.below hb)
  have HZ1 := Lib.hid (HZ.out.below hb)
  have HB1 := Lib.hid (below_call HB.out (Nat.le_refl _) hb)
  have HR1 := Lib.hid (HR.out.below hb)
  have hs1 := hb.size
  have hs0 := HZ.out.lt
  clear hb HV HZ HB HR E
  obtain ⟨r0, r1, r2, r3⟩ := HV1.out.c
  go_wp2_with fail
  refine (rcopy_c HR1.out HTK.out).mono ?_
  rintro e w2 ⟨g1, d1, g2, d2, g3, d3, rfl, hR2, hb2⟩
  have HV2 := Lib.hid (HV1.out.below hb2)
  have HZ2 := Lib.hid (HZ1.out.below hb2)
  have HB2 := Lib.hid (below_call HB1.out (Nat.le_refl _) hb2)
  have HR2 := Lib.hid hR2
  have HO2 := Lib.hid (keep HB2.out HO.out)
  have hg1 : w.heap.size + 1 < g1 := by have := Kd.R_base hR2.r1 g1 rfl; omega
  have hg2 : w.heap.size + 1 < g2 := by have := Kd.R_base hR2.r2 g2 rfl; omega
  have hg3 : w.heap.size + 1 < g3 := by have := Kd.R_base hR2.r3 g3 rfl; omega
  have hl1 : g1 < w2.heap.size := Kd.R_lt hR2.r1 g1 rfl
  have hl2 : g2 < w2.heap.size := Kd.R_lt hR2.r2 g2 rfl
  have hl3 : g3 < w2.heap.size := Kd.R_lt hR2.r3 g3 rfl
  have hin : i < n := by have := (List.getElem?_eq_some_iff.1 HX.out).1; have := HR2.out.len; omega
  have hlz := HZ2.out.lt
  have s1 : w2.cell? ⟨g1, i, none⟩ = some (.int .i64 x.f0) := int_cell HR2.out.r1 (by rw [List.getElem?_map, HX.out]; rfl)
  have s2 : w2.cell? ⟨g2, i, none⟩ = some (.bool x.f1) := bool_cell HR2.out.r2 (by rw [List.getElem?_map, HX.out]; rfl)
  have s3 : w2.cell? ⟨g3, i, none⟩ = some (.int .i64 x.f2) := int_cell HR2.out.r3 (by rw [List.getElem?_map, HX.out]; rfl)
  have y1 := HR2.out.fz1 i
  have y2 := HR2.out.fz2 i
  have y3 := HR2.out.fz3 i
  clear hR2 hb2 HV1 HZ1 HB1 HR1 r0 r1 r2 r3
  obtain ⟨r0, r1, r2, r3⟩ := HV2.out.c
  obtain ⟨z0, z1, z2, z3⟩ := HZ2.out.c
  have f0 := HZ2.out.f 0
  have f1 := HZ2.out.f 1
  have f2 := HZ2.out.f 2
  have f3 := HZ2.out.f 3
  have hn32 : g3 ≠ g2 := fun e => by rcases own_ne_types (Kd.own_of_R HR2.out.r3) (Kd.own_of_R HR2.out.r2) (by decide) with h | h
                                     · cases h
                                     · exact h (by rw [e]; rfl)
  have hil : i < xs.length := (List.getElem?_eq_some_iff.1 HX.out).1
  have HT7 := Lib.hid (show RT (((w2.setCell ⟨g2, i, none⟩ (.bool true)).setCell ⟨g3, i, none⟩ (.int .i64 v)).alloc (.cells #[.int .i64 kind, .slice (some ⟨g1, 0, none⟩) n d1, .slice (some ⟨g2, 0, none⟩) n d2, .slice (some ⟨g3, 0, none⟩) n d3] 30)) w1.heap.size n (some ⟨g1, 0, none⟩) d1 (some ⟨g2, 0, none⟩) d2 (some ⟨g3, 0, none⟩) d3 (xs.set i ⟨x.f0, true, v⟩) by
    have a1 := HR2.out.set2 HX.out true
    have a2 := a1.set3 (x := ⟨x.f0, true, x.f2⟩) (List.getElem?_set_self hil) v
    rw [List.set_set] at a2
    exact a2.below ((Below.refl _ _).alloc (Nat.le_refl _) _))
  have C7 : Chg (fun k => k = g2 ∨ k = g3) w2 (((w2.setCell ⟨g2, i, none⟩ (.bool true)).setCell ⟨g3, i, none⟩ (.int .i64 v)).alloc (.cells #[.int .i64 kind, .slice (some ⟨g1, 0, none⟩) n d1, .slice (some ⟨g2, 0, none⟩) n d2, .slice (some ⟨g3, 0, none⟩) n d3] 30)) := (((Chg.refl (fun k => k = g2 ∨ k = g3) w2).setCell ⟨g2, i, none⟩ _ (.inl rfl)).setCell ⟨g3, i, none⟩ _ (.inr rfl)).alloc _
  have HV7 := Lib.hid (HV2.out.chg C7 (fun h => by rcases h with e | e <;> omega))
  have HZ7 := Lib.hid (HZ2.out.chg C7 (fun h => by rcases h with e | e <;> omega))
  have HB7 := Lib.hid (HB2.out.trans (C7.below HB2.out.size (fun k h => by rcases h with e | e <;> omega)))
  have o7 : (((w2.setCell ⟨g2, i, none⟩ (.bool true)).setCell ⟨g3, i, none⟩ (.int .i64 v)).alloc (.cells #[.int .i64 kind, .slice (some ⟨g1, 0, none⟩) n d1, .slice (some ⟨g2, 0, none⟩) n d2, .slice (some ⟨g3, 0, none⟩) n d3] 30)).cell? ⟨ga, i, none⟩ = some (.int .i64 x.f0) := keepc C7 (fun h => by rcases h with e | e <;> omega) HO2.out
  have HX7 := Lib.hid (show VarT (((w2.setCell ⟨g2, i, none⟩ (.bool true)).setCell ⟨g3, i, none⟩ (.int .i64 v)).alloc (.cells #[.int .i64 kind, .slice (some ⟨g1, 0, none⟩) n d1, .slice (some ⟨g2, 0, none⟩) n d2, .slice (some ⟨g3, 0, none⟩) n d3] 30)) w2.heap.size n kind (some ⟨g1, 0, none⟩) d1 (some ⟨g2, 0, none⟩) d2 (some ⟨g3, 0, none⟩) d3 by
    have h := VarT.new ((w2.setCell ⟨g2, i, none⟩ (.bool true)).setCell ⟨g3, i, none⟩ (.int .i64 v)) n kind (some ⟨g1, 0, none⟩) d1 (some ⟨g2, 0, none⟩) d2 (some ⟨g3, 0, none⟩) d3
    simpa using h)
  clear C7
  go_wp2_with fail
  generalize (((w2.setCell ⟨g2, i, none⟩ (.bool true)).setCell ⟨g3, i, none⟩ (.int .i64 v)).alloc (.cells #[.int .i64 kind, .slice (some ⟨g1, 0, none⟩) n d1, .slice (some ⟨g2, 0, none⟩) n d2, .slice (some ⟨g3, 0, none⟩) n d3] 30)) = W7 at HT7 HV7 HZ7 HB7 o7 HX7 ⊢
  generalize w2.heap.size = xb at HX7 ⊢
  clear z0 z1 z2 z3 f0 f1 f2 f3 r0 r1 r2 r3 s1 s2 s3 y1 y2 y3
  obtain ⟨z0, z1, z2, z3⟩ := HZ7.out.c
  obtain ⟨r0, r1, r2, r3⟩ := HV7.out.c
  obtain ⟨x0, x1, x2, x3⟩ := HX7.out.c
  have f0 := HZ7.out.f 0
  have f1 := HZ7.out.f 1
  have f2 := HZ7.out.f 2
  have f3 := HZ7.out.f 3
  have MQ := Lib.hid (fun W => titheref03_Make.calls kind (i : Int) x.f0 _ W (rmake_f HTK.out HX.out))
  have hB1 : B ≤ w1.heap.size := by omega
  go_region_with (first
    | (go_at_call 42; refine (MQ.out _).mono ?_; rintro e w8 ⟨rfl, ⟨d8, hw8⟩⟩; (try dsimp only); have hb8 : Below W7.heap.size W7 w8 := (by rw [hw8]; exact ⟨rfl, rfl, rfl, Nat.le_refl _, fun _ _ => rfl⟩); have z0 := keep hb8 z0; have z1 := keep hb8 z1; have z2 := keep hb8 z2; have z3 := keep hb8 z3; have x0 := keep hb8 x0; have x1 := keep hb8 x1; have x2 := keep hb8 x2; have x3 := keep hb8 x3; have f0 := (HZ7.out.below hb8).f 0; have f1 := (HZ7.out.below hb8).f 1; have f2 := (HZ7.out.below hb8).f 2; have f3 := (HZ7.out.below hb8).f 3; have HT8 := Lib.hid (HT7.out.below hb8); have HB8 := Lib.hid (below_call HB7.out (Nat.le_refl _) hb8); clear hb8 hw8)
    | fail)
  all_goals
    go_wp2
    refine bodyPost_ret (v := .tuple #[.agg #[.int .i64 kind, .slice (some ⟨g1, 0, none⟩) n d1, .slice (some ⟨g2, 0, none⟩) n d2, .slice (some ⟨g3, 0, none⟩) n d3], .int .i64 (mk kind i x.f0), .int .i64 0]) (by simp [results, Tryd.results45, go_sem, z0, z1, z2, z3]) rfl ?_
    exact ⟨_, _, _, _, _, _, rfl, (HT8.out.chg (chg_set4 w8 (w.heap.size + 1) (.int .i64 kind) (.slice (some ⟨g1, 0, none⟩) n d1) (.slice (some ⟨g2, 0, none⟩) n d2) (.slice (some ⟨g3, 0, none⟩) n d3)) (fun k hk ho => by have e : k = w.heap.size + 1 := hk; have := (HT8.out.base ho).1; omega)).lower hB1, HB8.out.trans ((chg_set4 w8 (w.heap.size + 1) (.int .i64 kind) (.slice (some ⟨g1, 0, none⟩) n d1) (.slice (some ⟨g2, 0, none⟩) n d2) (.slice (some ⟨g3, 0, none⟩) n d3)).below HB8.out.size (fun k hk => by have e : k = w.heap.size + 1 := hk; omega))⟩

end
end Go.Proofs.YtgjlkplieoajlaaDoor
