/- The law's step, by a contract that leaves the reference's table that came. Printed by gen_sl_step3.py (this repo's). -/
import Derived.Test.YtgjlkplieoajlaaDoorSt2
set_option linter.unusedVariables false
set_option linter.unusedSimpArgs false
namespace Go.Proofs.YtgjlkplieoajlaaDoor
open Go.RowKit
open Go.Proofs.YtgjlkplieoajlaaDoorW.PrintWords (Kd Drawn0 Kept rd rdOf)
open Go.Proofs.YtgjlkplieoajlaaDoor.PSlotsTwins
set_option maxRecDepth 100000

theorem RT.ne_slot {w : World} {B n t g cap : Nat} {kind : Int} {A1 : Option Addr} {c1 : Nat} {A2 : Option Addr} {c2 : Nat} {A3 : Option Addr} {c3 : Nat} {xs ys : List Sl} {m : Nat} (R : RT w B n A1 c1 A2 c2 A3 c3 xs) (H : TB w t g m cap kind ys) : ¬ Own3 n A1 c1 A2 c2 A3 c3 g := by
  obtain ⟨cells, hc⟩ := Kd.R_typed H.row g rfl
  rintro (e | e | e)
  · exact Kd.R_ne R.r1 hc (by decide) e.symm
  · exact Kd.R_ne R.r2 hc (by decide) e.symm
  · exact Kd.R_ne R.r3 hc (by decide) e.symm

section
variable {t g n cap : Nat} {kind : Int} {xs : List Sl}
theorem add_any2 (hT : Tk kind n xs) (v : Int) : ∃ (ys : List Sl) (h er : Int) (ev : Value), NumV ev er ∧ Tk kind n ys ∧
    (∀ w B A1 c1 A2 c2 A3 c3, RT w B n A1 c1 A2 c2 A3 c3 xs → Calls Tryd.prog 45 #[.agg #[.int .i64 kind, .slice A1 n c1, .slice A2 n c2, .slice A3 n c3], .int .i64 v] w fun e w' => ∃ B1 d1 B2 d2 B3 d3, e = .returned (.tuple #[.agg #[.int .i64 kind, .slice B1 n d1, .slice B2 n d2, .slice B3 n d3], .int .i64 h, .int .i64 er]) ∧ RT w' B n B1 d1 B2 d2 B3 d3 ys ∧ Below w.heap.size w w') ∧
    ∀ w, TB w t g n cap kind xs → Calls Tryd.prog 15 #[.pointer (some ⟨t, 0, none⟩), .int .i64 v] w fun e w' => e = .returned (.tuple #[.int .i64 h, ev]) ∧ TB w' t g n cap kind ys ∧ Chg (fun k => k = g) w w' := by
  rcases first_free xs with ⟨i, x, h1, h2, h3⟩ | h
  · exact ⟨_, _, _, _, .inl ⟨rfl, rfl⟩, hT.set i ⟨x.f0, true, v⟩ (hT.gen i x h1).1 (hT.gen i x h1).2 (fun _ => h2.2) (fun f => by simp at f), fun w B A1 c1 A2 c2 A3 c3 R => radd_hit_b R hT v i x h1 h2 h3, fun w H => add_hit t g n cap i kind v xs x w H hT h1 h2 h3⟩
  · refine ⟨xs, _, _, _, .inr rfl, hT, fun w B A1 c1 A2 c2 A3 c3 R => radd_none_b R hT v h, fun w H => (add_full t g n cap kind v xs w H hT h).mono ?_⟩
    rintro e w' ⟨rfl, rfl⟩
    exact ⟨rfl, H, Chg.refl _ w⟩
theorem set_any2 (hT : Tk kind n xs) (h v : Int) : ∃ (ys : List Sl) (er : Int) (ev : Value), NumV ev er ∧ Tk kind n ys ∧
    (∀ w B A1 c1 A2 c2 A3 c3, RT w B n A1 c1 A2 c2 A3 c3 xs → Calls Tryd.prog 47 #[.agg #[.int .i64 kind, .slice A1 n c1, .slice A2 n c2, .slice A3 n c3], .int .i64 h, .int .i64 v] w fun e w' => ∃ B1 d1 B2 d2 B3 d3, e = .returned (.tuple #[.agg #[.int .i64 kind, .slice B1 n d1, .slice B2 n d2, .slice B3 n d3], .int .i64 er]) ∧ RT w' B n B1 d1 B2 d2 B3 d3 ys ∧ Below w.heap.size w w') ∧
    ∀ w, TB w t g n cap kind xs → Calls Tryd.prog 17 #[.pointer (some ⟨t, 0, none⟩), .int .i64 h, .int .i64 v] w fun e w' => e = .returned ev ∧ TB w' t g n cap kind ys ∧ Chg (fun k => k = g) w w' := by
  rcases at_or kind h xs with ⟨i, x, ha⟩ | ha
  · exact ⟨_, _, _, .inl ⟨rfl, rfl⟩, hT.set i ⟨x.f0, x.f1, v⟩ (hT.gen i x ha.1).1 (hT.gen i x ha.1).2 (hT.top i x ha.1) (fun f => by rw [ha.2.1] at f; simp at f), fun w B A1 c1 A2 c2 A3 c3 R => rset_hit_b R hT h v i x ha, fun w H => set_hit t g n cap i kind h v xs x w H hT ha⟩
  · exact ⟨xs, _, _, .inr rfl, hT, fun w B A1 c1 A2 c2 A3 c3 R => rset_none_b R hT h v ha, fun w H => (set_miss t g n cap kind h v xs w H hT ha).mono fun _ _ k => ⟨k.1, H.q k.2, chg_q k.2⟩⟩
theorem drop_any2 (hT : Tk kind n xs) (h : Int) : ∃ (ys : List Sl) (er : Int) (ev : Value), NumV ev er ∧ Tk kind n ys ∧
    (∀ w B A1 c1 A2 c2 A3 c3, RT w B n A1 c1 A2 c2 A3 c3 xs → Calls Tryd.prog 48 #[.agg #[.int .i64 kind, .slice A1 n c1, .slice A2 n c2, .slice A3 n c3], .int .i64 h] w fun e w' => ∃ B1 d1 B2 d2 B3 d3, e = .returned (.tuple #[.agg #[.int .i64 kind, .slice B1 n d1, .slice B2 n d2, .slice B3 n d3], .int .i64 er]) ∧ RT w' B n B1 d1 B2 d2 B3 d3 ys ∧ Below w.heap.size w w') ∧
    ∀ w, TB w t g n cap kind xs → Calls Tryd.prog 14 #[.pointer (some ⟨t, 0, none⟩), .int .i64 h] w fun e w' => e = .returned ev ∧ TB w' t g n cap kind ys ∧ Chg (fun k => k = g) w w' := by
  rcases at_or kind h xs with ⟨i, x, ha⟩ | ha
  · have hg := hT.gen i x ha.1
    have hf := hT.top i x ha.1 ha.2.1
    exact ⟨_, _, _, .inl ⟨rfl, rfl⟩, hT.set i ⟨x.f0 + 1, false, 0⟩ (by show 1 ≤ x.f0 + 1; omega) (by show x.f0 + 1 ≤ 1024; omega) (fun f => by simp at f) (fun _ => rfl), fun w B A1 c1 A2 c2 A3 c3 R => rdrop_hit_b R hT h i x ha, fun w H => drop_hit t g n cap i kind h xs x w H hT ha⟩
  · exact ⟨xs, _, _, .inr rfl, hT, fun w B A1 c1 A2 c2 A3 c3 R => rdrop_none_b R hT h ha, fun w H => (drop_miss t g n cap kind h xs w H hT ha).mono fun _ _ k => ⟨k.1, H.q k.2, chg_q k.2⟩⟩
end

set_option maxHeartbeats 2000000 in
theorem step2_add (t g n cap B : Nat) (kind h v : Int) (A1 : Option Addr) (c1 : Nat) (A2 : Option Addr) (c2 : Nat) (A3 : Option Addr) (c3 : Nat) (xs : List Sl) (w : World) (H : TB w t g n cap kind xs) (hT : Tk kind n xs) (R : RT w B n A1 c1 A2 c2 A3 c3 xs)
    (hE : 0 < g) (hL : Laid w) :
    Calls Tryd.prog 19 #[.pointer (some ⟨t, 0, none⟩), .agg #[.int .i64 kind, .slice A1 n c1, .slice A2 n c2, .slice A3 n c3], .agg #[.int .i64 0, .int .i64 h, .int .i64 v]] w (StepPost w t g n cap B kind (fun k => k = g)) := by
  obtain ⟨ys, hh, er, ev, hev, hTy, hE1, hC⟩ := add_any2 (t := t) (g := g) (cap := cap) hT v
  have HNV := Lib.hid hev
  have HTY := Lib.hid hTy
  have HE1 := Lib.hid hE1
  have HC := Lib.hid hC
  have htw := H.lt
  have hgw := H.ltg
  have HGO := Lib.hid (R.ne_slot H)
  have HH := Lib.hid H
  have HR := Lib.hid R
  have HLL := Lib.hid hL
  have hBw := R.sz
  have HO3 := Lib.hid (fun k (hk : Own3 n A1 c1 A2 c2 A3 c3 k) => (HR.out.base hk).2)
  have X0 := Lib.hid (StB.new w kind (.slice A1 n c1) (.slice A2 n c2) (.slice A3 n c3) 0 h v)
  have D0 := Lib.hid ((((Chg.refl (fun k => k = g) w).alloc (.cells #[.int .i64 kind, .slice A1 n c1, .slice A2 n c2, .slice A3 n c3] 30)).alloc (.cells #[.int .i64 0, .int .i64 h, .int .i64 v] 41)).alloc (.cells #[.int .i64 0, .slice none 0 0, .slice none 0 0, .slice none 0 0] 30))
  have E0 := Lib.hid ((((Chg.refl (fun _ => False) w).alloc (.cells #[.int .i64 kind, .slice A1 n c1, .slice A2 n c2, .slice A3 n c3] 30)).alloc (.cells #[.int .i64 0, .int .i64 h, .int .i64 v] 41)).alloc (.cells #[.int .i64 0, .slice none 0 0, .slice none 0 0, .slice none 0 0] 30))
  clear hev hTy hE1 hC H R hL hT
  go_enter Tryd.func19, Tryd.ntmps19
  go_wp2_with fail
  refine (HC.out _ (HH.out.chg E0.out (fun f => f) (fun f => f))).mono ?_
  rintro e w1 ⟨rfl, hT1, hc1⟩
  have X1 := Lib.hid (X0.out.later hc1 (fun k hk => by rw [hk]; omega))
  have D1 := Lib.hid (D0.out.trans (hc1.mono (T := fun k => k = g) (fun k _ hk => hk)))
  have R1 := Lib.hid ((HR.out.chg E0.out (fun _ f => f.elim)).chg hc1 (fun k hk hn => HGO.out (by have e : k = g := hk; rw [← e]; exact hn)))
  have L1 := Lib.hid ((HLL.out.chg E0.out (fun f => f)).chg hc1 (fun e => by have : 0 = g := e; omega))
  have T1 := Lib.hid hT1
  clear hT1 hc1 X0 D0 E0 HH HR HLL HC
  obtain ⟨r0, r1, r2, r3⟩ := X1.out.r
  have o2 := X1.out.o.2.2
  go_wp2_with fail
  refine (HE1.out _ _ _ _ _ _ _ _ R1.out).mono ?_
  rintro e w2 ⟨B1, d1, B2, d2, B3, d3, rfl, hR2, hb2⟩
  have hc2 := Chg.ofBelow hb2 (fun _ => False)
  have X2 := Lib.hid (X1.out.below hb2)
  have D2 := Lib.hid (D1.out.trans (hc2.mono (T := fun k => k = g) (fun k _ hk => hk.elim)))
  have T2 := Lib.hid (T1.out.below hb2)
  have L2 := Lib.hid (L1.out.below hb2)
  have R2 := Lib.hid hR2
  clear r0 r1 r2 r3 o2 X1 D1 R1 L1 T1 hR2 hc2 hb2
  go_wp2_with fail
  have HB3 := Lib.hid ((Below.refl w2.heap.size w2).alloc (Nat.le_refl _) (.cells #[.int .i64 kind, .slice B1 n d1, .slice B2 n d2, .slice B3 n d3] 30))
  have x0 : (w2.alloc (.cells #[.int .i64 kind, .slice B1 n d1, .slice B2 n d2, .slice B3 n d3] 30)).cell? ⟨w2.heap.size, 0, none⟩ = some (.int .i64 kind) := by simp
  have x1 : (w2.alloc (.cells #[.int .i64 kind, .slice B1 n d1, .slice B2 n d2, .slice B3 n d3] 30)).cell? ⟨w2.heap.size, 1, none⟩ = some (.slice B1 n d1) := by simp
  have x2 : (w2.alloc (.cells #[.int .i64 kind, .slice B1 n d1, .slice B2 n d2, .slice B3 n d3] 30)).cell? ⟨w2.heap.size, 2, none⟩ = some (.slice B2 n d2) := by simp
  have x3 : (w2.alloc (.cells #[.int .i64 kind, .slice B1 n d1, .slice B2 n d2, .slice B3 n d3] 30)).cell? ⟨w2.heap.size, 3, none⟩ = some (.slice B3 n d3) := by simp
  generalize (w2.alloc (.cells #[.int .i64 kind, .slice B1 n d1, .slice B2 n d2, .slice B3 n d3] 30)) = w3 at HB3 x0 x1 x2 x3 ⊢
  generalize w2.heap.size = xb at x0 x1 x2 x3 ⊢
  have X3 := Lib.hid (X2.out.below HB3.out)
  have D3 := Lib.hid (D2.out.trans (Chg.ofBelow HB3.out (fun k => k = g)))
  have T3 := Lib.hid (T2.out.below HB3.out)
  have R3 := Lib.hid (R2.out.below HB3.out)
  have HNUM := Lib.hid (fun W (hb : Below w3.heap.size w3 W) => num_any HNV.out W ((L2.out.below HB3.out).below hb))
  clear X2 D2 T2 R2 L2 HB3
  go_region_with (first
    | (go_at_call 11; refine (HNUM.out _ (by first | exact Below.refl _ _ | exact Below.drew (Below.refl _ _))).mono ?_; rintro e w4 ⟨rfl, hb4⟩; (try dsimp only); have x0 := keep hb4 x0; have x1 := keep hb4 x1; have x2 := keep hb4 x2; have x3 := keep hb4 x3; have HB4 := Lib.hid (show Below w3.heap.size w3 w4 from ⟨hb4.os, hb4.tape, hb4.output, hb4.size, hb4.block⟩); have zz := (X3.out.below HB4.out).z; have z0 := zz.1; have z1 := zz.2.1; have z2 := zz.2.2.1; have z3 := zz.2.2.2; have f0 := (X3.out.below HB4.out).f 0; have f1 := (X3.out.below HB4.out).f 1; have f2 := (X3.out.below HB4.out).f 2; have f3 := (X3.out.below HB4.out).f 3; clear zz hb4)
    | fail)
  all_goals
    go_wp2
    refine bodyPost_ret (v := .tuple #[.agg #[.int .i64 kind, .slice B1 n d1, .slice B2 n d2, .slice B3 n d3], .bool true]) (by simp [results, Tryd.results19, go_sem, z0, z1, z2, z3]) rfl ?_
    exact (X3.out.below HB4.out).fin (T3.out.below HB4.out) HTY.out (R3.out.below HB4.out) (D3.out.trans (Chg.ofBelow HB4.out (fun k => k = g))) (by omega) (by omega) _ _ _ _


set_option maxHeartbeats 2000000 in
theorem step2_get (t g n cap B : Nat) (kind h v : Int) (A1 : Option Addr) (c1 : Nat) (A2 : Option Addr) (c2 : Nat) (A3 : Option Addr) (c3 : Nat) (xs : List Sl) (w : World) (H : TB w t g n cap kind xs) (hT : Tk kind n xs) (R : RT w B n A1 c1 A2 c2 A3 c3 xs)
    (hE : 0 < g) (hL : Laid w) :
    Calls Tryd.prog 19 #[.pointer (some ⟨t, 0, none⟩), .agg #[.int .i64 kind, .slice A1 n c1, .slice A2 n c2, .slice A3 n c3], .agg #[.int .i64 1, .int .i64 h, .int .i64 v]] w (StepPost w t g n cap B kind (fun k => k = g)) := by
  obtain ⟨rr, er, ev, hev, hE1, hC⟩ := get_any (t := t) (g := g) (cap := cap) hT h
  have HNV := Lib.hid hev
  have HTY := Lib.hid hT
  have HE1 := Lib.hid hE1
  have HC := Lib.hid hC
  have htw := H.lt
  have hgw := H.ltg
  have HGO := Lib.hid (R.ne_slot H)
  have HH := Lib.hid H
  have HR := Lib.hid R
  have HLL := Lib.hid hL
  have hBw := R.sz
  have HO3 := Lib.hid (fun k (hk : Own3 n A1 c1 A2 c2 A3 c3 k) => (HR.out.base hk).2)
  have X0 := Lib.hid (StB.new w kind (.slice A1 n c1) (.slice A2 n c2) (.slice A3 n c3) 1 h v)
  have D0 := Lib.hid ((((Chg.refl (fun k => k = g) w).alloc (.cells #[.int .i64 kind, .slice A1 n c1, .slice A2 n c2, .slice A3 n c3] 30)).alloc (.cells #[.int .i64 1, .int .i64 h, .int .i64 v] 41)).alloc (.cells #[.int .i64 0, .slice none 0 0, .slice none 0 0, .slice none 0 0] 30))
  have E0 := Lib.hid ((((Chg.refl (fun _ => False) w).alloc (.cells #[.int .i64 kind, .slice A1 n c1, .slice A2 n c2, .slice A3 n c3] 30)).alloc (.cells #[.int .i64 1, .int .i64 h, .int .i64 v] 41)).alloc (.cells #[.int .i64 0, .slice none 0 0, .slice none 0 0, .slice none 0 0] 30))
  clear hev hE1 hC H R hL hT
  go_enter Tryd.func19, Tryd.ntmps19
  go_wp2_with fail
  refine (HC.out _ (HH.out.chg E0.out (fun f => f) (fun f => f))).mono ?_
  rintro e w1 ⟨rfl, hT1, hc1⟩
  have X1 := Lib.hid (X0.out.later hc1 (fun k hk => by rw [hk]; omega))
  have D1 := Lib.hid (D0.out.trans (hc1.mono (T := fun k => k = g) (fun k _ hk => hk)))
  have R1 := Lib.hid ((HR.out.chg E0.out (fun _ f => f.elim)).chg hc1 (fun k hk hn => HGO.out (by have e : k = g := hk; rw [← e]; exact hn)))
  have L1 := Lib.hid ((HLL.out.chg E0.out (fun f => f)).chg hc1 (fun e => by have : 0 = g := e; omega))
  have T1 := Lib.hid hT1
  clear hT1 hc1 X0 D0 E0 HH HR HLL HC
  obtain ⟨r0, r1, r2, r3⟩ := X1.out.r
  have o1 := X1.out.o.2.1
  go_wp2_with fail
  refine (rget_c R1.out h rr er HE1.out).mono ?_
  rintro e w3 ⟨rfl, hb3⟩
  have HB3 := Lib.hid hb3
  have X3 := Lib.hid (X1.out.below HB3.out)
  have D3 := Lib.hid (D1.out.trans (Chg.ofBelow HB3.out (fun k => k = g)))
  have T3 := Lib.hid (T1.out.below HB3.out)
  have R3 := Lib.hid (R1.out.below HB3.out)
  have HNUM := Lib.hid (fun W (hb : Below w3.heap.size w3 W) => num_any HNV.out W ((L1.out.below HB3.out).below hb))
  clear r0 r1 r2 r3 o1 X1 D1 R1 L1 T1 HB3 hb3
  obtain ⟨r0, r1, r2, r3⟩ := X3.out.r
  go_wp2_with fail
  go_region_with (first
    | (go_at_call 11; refine (HNUM.out _ (by first | exact Below.refl _ _ | exact Below.drew (Below.refl _ _))).mono ?_; rintro e w4 ⟨rfl, hb4⟩; (try dsimp only); have r0 := keep hb4 r0; have r1 := keep hb4 r1; have r2 := keep hb4 r2; have r3 := keep hb4 r3; have HB4 := Lib.hid (show Below w3.heap.size w3 w4 from ⟨hb4.os, hb4.tape, hb4.output, hb4.size, hb4.block⟩); have zz := (X3.out.below HB4.out).z; have z0 := zz.1; have z1 := zz.2.1; have z2 := zz.2.2.1; have z3 := zz.2.2.2; have f0 := (X3.out.below HB4.out).f 0; have f1 := (X3.out.below HB4.out).f 1; have f2 := (X3.out.below HB4.out).f 2; have f3 := (X3.out.below HB4.out).f 3; clear zz hb4)
    | fail)
  all_goals
    go_wp2
    refine bodyPost_ret (v := .tuple #[.agg #[.int .i64 kind, .slice A1 n c1, .slice A2 n c2, .slice A3 n c3], .bool true]) (by simp [results, Tryd.results19, go_sem, z0, z1, z2, z3]) rfl ?_
    exact (X3.out.below HB4.out).fin (T3.out.below HB4.out) HTY.out (R3.out.below HB4.out) (D3.out.trans (Chg.ofBelow HB4.out (fun k => k = g))) (by omega) (by omega) _ _ _ _


set_option maxHeartbeats 2000000 in
theorem step2_set (t g n cap B : Nat) (kind h v : Int) (A1 : Option Addr) (c1 : Nat) (A2 : Option Addr) (c2 : Nat) (A3 : Option Addr) (c3 : Nat) (xs : List Sl) (w : World) (H : TB w t g n cap kind xs) (hT : Tk kind n xs) (R : RT w B n A1 c1 A2 c2 A3 c3 xs)
    (hE : 0 < g) (hL : Laid w) :
    Calls Tryd.prog 19 #[.pointer (some ⟨t, 0, none⟩), .agg #[.int .i64 kind, .slice A1 n c1, .slice A2 n c2, .slice A3 n c3], .agg #[.int .i64 2, .int .i64 h, .int .i64 v]] w (StepPost w t g n cap B kind (fun k => k = g)) := by
  obtain ⟨ys, er, ev, hev, hTy, hE1, hC⟩ := set_any2 (t := t) (g := g) (cap := cap) hT h v
  have HNV := Lib.hid hev
  have HTY := Lib.hid hTy
  have HE1 := Lib.hid hE1
  have HC := Lib.hid hC
  have htw := H.lt
  have hgw := H.ltg
  have HGO := Lib.hid (R.ne_slot H)
  have HH := Lib.hid H
  have HR := Lib.hid R
  have HLL := Lib.hid hL
  have hBw := R.sz
  have HO3 := Lib.hid (fun k (hk : Own3 n A1 c1 A2 c2 A3 c3 k) => (HR.out.base hk).2)
  have X0 := Lib.hid (StB.new w kind (.slice A1 n c1) (.slice A2 n c2) (.slice A3 n c3) 2 h v)
  have D0 := Lib.hid ((((Chg.refl (fun k => k = g) w).alloc (.cells #[.int .i64 kind, .slice A1 n c1, .slice A2 n c2, .slice A3 n c3] 30)).alloc (.cells #[.int .i64 2, .int .i64 h, .int .i64 v] 41)).alloc (.cells #[.int .i64 0, .slice none 0 0, .slice none 0 0, .slice none 0 0] 30))
  have E0 := Lib.hid ((((Chg.refl (fun _ => False) w).alloc (.cells #[.int .i64 kind, .slice A1 n c1, .slice A2 n c2, .slice A3 n c3] 30)).alloc (.cells #[.int .i64 2, .int .i64 h, .int .i64 v] 41)).alloc (.cells #[.int .i64 0, .slice none 0 0, .slice none 0 0, .slice none 0 0] 30))
  clear hev hTy hE1 hC H R hL hT
  go_enter Tryd.func19, Tryd.ntmps19
  go_wp2_with fail
  refine (HC.out _ (HH.out.chg E0.out (fun f => f) (fun f => f))).mono ?_
  rintro e w1 ⟨rfl, hT1, hc1⟩
  have X1 := Lib.hid (X0.out.later hc1 (fun k hk => by rw [hk]; omega))
  have D1 := Lib.hid (D0.out.trans (hc1.mono (T := fun k => k = g) (fun k _ hk => hk)))
  have R1 := Lib.hid ((HR.out.chg E0.out (fun _ f => f.elim)).chg hc1 (fun k hk hn => HGO.out (by have e : k = g := hk; rw [← e]; exact hn)))
  have L1 := Lib.hid ((HLL.out.chg E0.out (fun f => f)).chg hc1 (fun e => by have : 0 = g := e; omega))
  have T1 := Lib.hid hT1
  clear hT1 hc1 X0 D0 E0 HH HR HLL HC
  obtain ⟨r0, r1, r2, r3⟩ := X1.out.r
  have o2 := X1.out.o.2.2
  have o1 := X1.out.o.2.1
  go_wp2_with fail
  refine (HE1.out _ _ _ _ _ _ _ _ R1.out).mono ?_
  rintro e w2 ⟨B1, d1, B2, d2, B3, d3, rfl, hR2, hb2⟩
  have hc2 := Chg.ofBelow hb2 (fun _ => False)
  have X2 := Lib.hid (X1.out.below hb2)
  have D2 := Lib.hid (D1.out.trans (hc2.mono (T := fun k => k = g) (fun k _ hk => hk.elim)))
  have T2 := Lib.hid (T1.out.below hb2)
  have L2 := Lib.hid (L1.out.below hb2)
  have R2 := Lib.hid hR2
  clear r0 r1 r2 r3 o2 o1 X1 D1 R1 L1 T1 hR2 hc2 hb2
  go_wp2_with fail
  have HB3 := Lib.hid ((Below.refl w2.heap.size w2).alloc (Nat.le_refl _) (.cells #[.int .i64 kind, .slice B1 n d1, .slice B2 n d2, .slice B3 n d3] 30))
  have x0 : (w2.alloc (.cells #[.int .i64 kind, .slice B1 n d1, .slice B2 n d2, .slice B3 n d3] 30)).cell? ⟨w2.heap.size, 0, none⟩ = some (.int .i64 kind) := by simp
  have x1 : (w2.alloc (.cells #[.int .i64 kind, .slice B1 n d1, .slice B2 n d2, .slice B3 n d3] 30)).cell? ⟨w2.heap.size, 1, none⟩ = some (.slice B1 n d1) := by simp
  have x2 : (w2.alloc (.cells #[.int .i64 kind, .slice B1 n d1, .slice B2 n d2, .slice B3 n d3] 30)).cell? ⟨w2.heap.size, 2, none⟩ = some (.slice B2 n d2) := by simp
  have x3 : (w2.alloc (.cells #[.int .i64 kind, .slice B1 n d1, .slice B2 n d2, .slice B3 n d3] 30)).cell? ⟨w2.heap.size, 3, none⟩ = some (.slice B3 n d3) := by simp
  generalize (w2.alloc (.cells #[.int .i64 kind, .slice B1 n d1, .slice B2 n d2, .slice B3 n d3] 30)) = w3 at HB3 x0 x1 x2 x3 ⊢
  generalize w2.heap.size = xb at x0 x1 x2 x3 ⊢
  have X3 := Lib.hid (X2.out.below HB3.out)
  have D3 := Lib.hid (D2.out.trans (Chg.ofBelow HB3.out (fun k => k = g)))
  have T3 := Lib.hid (T2.out.below HB3.out)
  have R3 := Lib.hid (R2.out.below HB3.out)
  have HNUM := Lib.hid (fun W (hb : Below w3.heap.size w3 W) => num_any HNV.out W ((L2.out.below HB3.out).below hb))
  clear X2 D2 T2 R2 L2 HB3
  go_region_with (first
    | (go_at_call 11; refine (HNUM.out _ (by first | exact Below.refl _ _ | exact Below.drew (Below.refl _ _))).mono ?_; rintro e w4 ⟨rfl, hb4⟩; (try dsimp only); have x0 := keep hb4 x0; have x1 := keep hb4 x1; have x2 := keep hb4 x2; have x3 := keep hb4 x3; have HB4 := Lib.hid (show Below w3.heap.size w3 w4 from ⟨hb4.os, hb4.tape, hb4.output, hb4.size, hb4.block⟩); have zz := (X3.out.below HB4.out).z; have z0 := zz.1; have z1 := zz.2.1; have z2 := zz.2.2.1; have z3 := zz.2.2.2; have f0 := (X3.out.below HB4.out).f 0; have f1 := (X3.out.below HB4.out).f 1; have f2 := (X3.out.below HB4.out).f 2; have f3 := (X3.out.below HB4.out).f 3; clear zz hb4)
    | fail)
  all_goals
    go_wp2
    refine bodyPost_ret (v := .tuple #[.agg #[.int .i64 kind, .slice B1 n d1, .slice B2 n d2, .slice B3 n d3], .bool true]) (by simp [results, Tryd.results19, go_sem, z0, z1, z2, z3]) rfl ?_
    exact (X3.out.below HB4.out).fin (T3.out.below HB4.out) HTY.out (R3.out.below HB4.out) (D3.out.trans (Chg.ofBelow HB4.out (fun k => k = g))) (by omega) (by omega) _ _ _ _


set_option maxHeartbeats 2000000 in
theorem step2_drop (t g n cap B : Nat) (kind h v : Int) (A1 : Option Addr) (c1 : Nat) (A2 : Option Addr) (c2 : Nat) (A3 : Option Addr) (c3 : Nat) (xs : List Sl) (w : World) (H : TB w t g n cap kind xs) (hT : Tk kind n xs) (R : RT w B n A1 c1 A2 c2 A3 c3 xs)
    (hE : 0 < g) (hL : Laid w) :
    Calls Tryd.prog 19 #[.pointer (some ⟨t, 0, none⟩), .agg #[.int .i64 kind, .slice A1 n c1, .slice A2 n c2, .slice A3 n c3], .agg #[.int .i64 3, .int .i64 h, .int .i64 v]] w (StepPost w t g n cap B kind (fun k => k = g)) := by
  obtain ⟨ys, er, ev, hev, hTy, hE1, hC⟩ := drop_any2 (t := t) (g := g) (cap := cap) hT h
  have HNV := Lib.hid hev
  have HTY := Lib.hid hTy
  have HE1 := Lib.hid hE1
  have HC := Lib.hid hC
  have htw := H.lt
  have hgw := H.ltg
  have HGO := Lib.hid (R.ne_slot H)
  have HH := Lib.hid H
  have HR := Lib.hid R
  have HLL := Lib.hid hL
  have hBw := R.sz
  have HO3 := Lib.hid (fun k (hk : Own3 n A1 c1 A2 c2 A3 c3 k) => (HR.out.base hk).2)
  have X0 := Lib.hid (StB.new w kind (.slice A1 n c1) (.slice A2 n c2) (.slice A3 n c3) 3 h v)
  have D0 := Lib.hid ((((Chg.refl (fun k => k = g) w).alloc (.cells #[.int .i64 kind, .slice A1 n c1, .slice A2 n c2, .slice A3 n c3] 30)).alloc (.cells #[.int .i64 3, .int .i64 h, .int .i64 v] 41)).alloc (.cells #[.int .i64 0, .slice none 0 0, .slice none 0 0, .slice none 0 0] 30))
  have E0 := Lib.hid ((((Chg.refl (fun _ => False) w).alloc (.cells #[.int .i64 kind, .slice A1 n c1, .slice A2 n c2, .slice A3 n c3] 30)).alloc (.cells #[.int .i64 3, .int .i64 h, .int .i64 v] 41)).alloc (.cells #[.int .i64 0, .slice none 0 0, .slice none 0 0, .slice none 0 0] 30))
  clear hev hTy hE1 hC H R hL hT
  go_enter Tryd.func19, Tryd.ntmps19
  go_wp2_with fail
  refine (HC.out _ (HH.out.chg E0.out (fun f => f) (fun f => f))).mono ?_
  rintro e w1 ⟨rfl, hT1, hc1⟩
  have X1 := Lib.hid (X0.out.later hc1 (fun k hk => by rw [hk]; omega))
  have D1 := Lib.hid (D0.out.trans (hc1.mono (T := fun k => k = g) (fun k _ hk => hk)))
  have R1 := Lib.hid ((HR.out.chg E0.out (fun _ f => f.elim)).chg hc1 (fun k hk hn => HGO.out (by have e : k = g := hk; rw [← e]; exact hn)))
  have L1 := Lib.hid ((HLL.out.chg E0.out (fun f => f)).chg hc1 (fun e => by have : 0 = g := e; omega))
  have T1 := Lib.hid hT1
  clear hT1 hc1 X0 D0 E0 HH HR HLL HC
  obtain ⟨r0, r1, r2, r3⟩ := X1.out.r
  have o1 := X1.out.o.2.1
  go_wp2_with fail
  refine (HE1.out _ _ _ _ _ _ _ _ R1.out).mono ?_
  rintro e w2 ⟨B1, d1, B2, d2, B3, d3, rfl, hR2, hb2⟩
  have hc2 := Chg.ofBelow hb2 (fun _ => False)
  have X2 := Lib.hid (X1.out.below hb2)
  have D2 := Lib.hid (D1.out.trans (hc2.mono (T := fun k => k = g) (fun k _ hk => hk.elim)))
  have T2 := Lib.hid (T1.out.below hb2)
  have L2 := Lib.hid (L1.out.below hb2)
  have R2 := Lib.hid hR2
  clear r0 r1 r2 r3 o1 X1 D1 R1 L1 T1 hR2 hc2 hb2
  go_wp2_with fail
  have HB3 := Lib.hid ((Below.refl w2.heap.size w2).alloc (Nat.le_refl _) (.cells #[.int .i64 kind, .slice B1 n d1, .slice B2 n d2, .slice B3 n d3] 30))
  have x0 : (w2.alloc (.cells #[.int .i64 kind, .slice B1 n d1, .slice B2 n d2, .slice B3 n d3] 30)).cell? ⟨w2.heap.size, 0, none⟩ = some (.int .i64 kind) := by simp
  have x1 : (w2.alloc (.cells #[.int .i64 kind, .slice B1 n d1, .slice B2 n d2, .slice B3 n d3] 30)).cell? ⟨w2.heap.size, 1, none⟩ = some (.slice B1 n d1) := by simp
  have x2 : (w2.alloc (.cells #[.int .i64 kind, .slice B1 n d1, .slice B2 n d2, .slice B3 n d3] 30)).cell? ⟨w2.heap.size, 2, none⟩ = some (.slice B2 n d2) := by simp
  have x3 : (w2.alloc (.cells #[.int .i64 kind, .slice B1 n d1, .slice B2 n d2, .slice B3 n d3] 30)).cell? ⟨w2.heap.size, 3, none⟩ = some (.slice B3 n d3) := by simp
  generalize (w2.alloc (.cells #[.int .i64 kind, .slice B1 n d1, .slice B2 n d2, .slice B3 n d3] 30)) = w3 at HB3 x0 x1 x2 x3 ⊢
  generalize w2.heap.size = xb at x0 x1 x2 x3 ⊢
  have X3 := Lib.hid (X2.out.below HB3.out)
  have D3 := Lib.hid (D2.out.trans (Chg.ofBelow HB3.out (fun k => k = g)))
  have T3 := Lib.hid (T2.out.below HB3.out)
  have R3 := Lib.hid (R2.out.below HB3.out)
  have HNUM := Lib.hid (fun W (hb : Below w3.heap.size w3 W) => num_any HNV.out W ((L2.out.below HB3.out).below hb))
  clear X2 D2 T2 R2 L2 HB3
  go_region_with (first
    | (go_at_call 11; refine (HNUM.out _ (by first | exact Below.refl _ _ | exact Below.drew (Below.refl _ _))).mono ?_; rintro e w4 ⟨rfl, hb4⟩; (try dsimp only); have x0 := keep hb4 x0; have x1 := keep hb4 x1; have x2 := keep hb4 x2; have x3 := keep hb4 x3; have HB4 := Lib.hid (show Below w3.heap.size w3 w4 from ⟨hb4.os, hb4.tape, hb4.output, hb4.size, hb4.block⟩); have zz := (X3.out.below HB4.out).z; have z0 := zz.1; have z1 := zz.2.1; have z2 := zz.2.2.1; have z3 := zz.2.2.2; have f0 := (X3.out.below HB4.out).f 0; have f1 := (X3.out.below HB4.out).f 1; have f2 := (X3.out.below HB4.out).f 2; have f3 := (X3.out.below HB4.out).f 3; clear zz hb4)
    | fail)
  all_goals
    go_wp2
    refine bodyPost_ret (v := .tuple #[.agg #[.int .i64 kind, .slice B1 n d1, .slice B2 n d2, .slice B3 n d3], .bool true]) (by simp [results, Tryd.results19, go_sem, z0, z1, z2, z3]) rfl ?_
    exact (X3.out.below HB4.out).fin (T3.out.below HB4.out) HTY.out (R3.out.below HB4.out) (D3.out.trans (Chg.ofBelow HB4.out (fun k => k = g))) (by omega) (by omega) _ _ _ _


set_option maxHeartbeats 2000000 in
theorem step2_all (t g n cap B : Nat) (kind kd h v : Int) (A1 : Option Addr) (c1 : Nat) (A2 : Option Addr) (c2 : Nat) (A3 : Option Addr) (c3 : Nat) (xs : List Sl) (w : World) (H : TB w t g n cap kind xs) (hT : Tk kind n xs) (R : RT w B n A1 c1 A2 c2 A3 c3 xs)
    (h0 : (kd == 0) = false) (h1 : (kd == 1) = false) (h2 : (kd == 2) = false) (h3 : (kd == 3) = false) :
    Calls Tryd.prog 19 #[.pointer (some ⟨t, 0, none⟩), .agg #[.int .i64 kind, .slice A1 n c1, .slice A2 n c2, .slice A3 n c3], .agg #[.int .i64 kd, .int .i64 h, .int .i64 v]] w (StepPost w t g n cap B kind (fun k => k = g)) := by
  have HTY := Lib.hid hT
  have hBw := R.sz
  have htw := H.lt
  have hgw := H.ltg
  have HGO := Lib.hid (R.ne_slot H)
  have X3 := Lib.hid (StB.new w kind (.slice A1 n c1) (.slice A2 n c2) (.slice A3 n c3) kd h v)
  have D3 := Lib.hid ((((Chg.refl (fun k => k = g) w).alloc (.cells #[.int .i64 kind, .slice A1 n c1, .slice A2 n c2, .slice A3 n c3] 30)).alloc (.cells #[.int .i64 kd, .int .i64 h, .int .i64 v] 41)).alloc (.cells #[.int .i64 0, .slice none 0 0, .slice none 0 0, .slice none 0 0] 30))
  have E0 := ((((Chg.refl (fun _ => False) w).alloc (.cells #[.int .i64 kind, .slice A1 n c1, .slice A2 n c2, .slice A3 n c3] 30)).alloc (.cells #[.int .i64 kd, .int .i64 h, .int .i64 v] 41)).alloc (.cells #[.int .i64 0, .slice none 0 0, .slice none 0 0, .slice none 0 0] 30))
  have T3 := Lib.hid (H.chg E0 (fun f => f) (fun f => f))
  have R3 := Lib.hid (R.chg E0 (fun _ f => f.elim))
  clear E0 H R hT
  go_enter Tryd.func19, Tryd.ntmps19
  go_wp2_with fail
  generalize ((((w.alloc (.cells #[.int .i64 kind, .slice A1 n c1, .slice A2 n c2, .slice A3 n c3] 30)).alloc (.cells #[.int .i64 kd, .int .i64 h, .int .i64 v] 41)).alloc (.cells #[.int .i64 0, .slice none 0 0, .slice none 0 0, .slice none 0 0] 30))) = w3 at X3 D3 T3 R3 ⊢
  have HSM := Lib.hid (fun W (hb : Below w3.heap.size w3 W) => same_ok t g n cap B kind A1 c1 A2 c2 A3 c3 xs W (T3.out.below hb) HTY.out (R3.out.below hb))
  obtain ⟨r0, r1, r2, r3⟩ := X3.out.r
  go_region_with (first
    | (go_at_call 12; refine (HSM.out _ (by first | exact Below.refl _ _ | exact Below.drew (Below.refl _ _))).mono ?_; rintro e w4 ⟨rfl, hb4⟩; (try dsimp only); have r0 := keep hb4 r0; have r1 := keep hb4 r1; have r2 := keep hb4 r2; have r3 := keep hb4 r3; have HB4 := Lib.hid (show Below w3.heap.size w3 w4 from ⟨hb4.os, hb4.tape, hb4.output, hb4.size, hb4.block⟩); have zz := (X3.out.below HB4.out).z; have z0 := zz.1; have z1 := zz.2.1; have z2 := zz.2.2.1; have z3 := zz.2.2.2; have f0 := (X3.out.below HB4.out).f 0; have f1 := (X3.out.below HB4.out).f 1; have f2 := (X3.out.below HB4.out).f 2; have f3 := (X3.out.below HB4.out).f 3; clear zz hb4)
    | fail)
  all_goals
    go_wp2
    refine bodyPost_ret (v := .tuple #[.agg #[.int .i64 kind, .slice A1 n c1, .slice A2 n c2, .slice A3 n c3], .bool true]) (by simp [results, Tryd.results19, go_sem, z0, z1, z2, z3]) rfl ?_
    exact (X3.out.below HB4.out).fin (T3.out.below HB4.out) HTY.out (R3.out.below HB4.out) (D3.out.trans (Chg.ofBelow HB4.out (fun k => k = g))) (by omega) (by omega) _ _ _ _


theorem step2_any (t g n cap B : Nat) (kind kd h v : Int) (A1 : Option Addr) (c1 : Nat) (A2 : Option Addr) (c2 : Nat) (A3 : Option Addr) (c3 : Nat) (xs : List Sl) (w : World) (H : TB w t g n cap kind xs) (hT : Tk kind n xs) (R : RT w B n A1 c1 A2 c2 A3 c3 xs)
    (hE : 0 < g) (hL : Laid w) :
    Calls Tryd.prog 19 #[.pointer (some ⟨t, 0, none⟩), .agg #[.int .i64 kind, .slice A1 n c1, .slice A2 n c2, .slice A3 n c3], .agg #[.int .i64 kd, .int .i64 h, .int .i64 v]] w (StepPost w t g n cap B kind (fun k => k = g)) := by
  by_cases h0 : kd = 0
  · subst h0; exact step2_add t g n cap B kind h v A1 c1 A2 c2 A3 c3 xs w H hT R hE hL
  by_cases h1 : kd = 1
  · subst h1; exact step2_get t g n cap B kind h v A1 c1 A2 c2 A3 c3 xs w H hT R hE hL
  by_cases h2 : kd = 2
  · subst h2; exact step2_set t g n cap B kind h v A1 c1 A2 c2 A3 c3 xs w H hT R hE hL
  by_cases h3 : kd = 3
  · subst h3; exact step2_drop t g n cap B kind h v A1 c1 A2 c2 A3 c3 xs w H hT R hE hL
  exact step2_all t g n cap B kind kd h v A1 c1 A2 c2 A3 c3 xs w H hT R (by simpa using h0) (by simpa using h1) (by simpa using h2) (by simpa using h3)

end Go.Proofs.YtgjlkplieoajlaaDoor
