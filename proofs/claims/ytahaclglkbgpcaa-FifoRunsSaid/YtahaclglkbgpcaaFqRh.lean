/- tithelaw04.alike, by contract. -/
import Derived.Deep.RegionWith
import Derived.Test.YtahaclglkbgpcaaFqRi
import Derived.Test.YtahaclglkbgpcaaFqRg
set_option linter.unusedVariables false
set_option linter.unusedSimpArgs false
namespace Go.Proofs.Ytahaclglkbgpcaa
open Go.RowKit Go.Shelf
set_option maxRecDepth 100000
attribute [local go_sem] Oper.semAt_some

set_option maxHeartbeats 4000000 in
theorem alike_ok {q lim n c : Nat} {a : Option Addr} {zs : List Int} {S : Nat → Prop} {w : World} (hQ : Qu IsI 84 3 w q lim (zs.map (Value.int .i64)) S) (hR : RL w 0 a n c zs) :
    Calls Try.prog 30 #[.pointer (some ⟨q, 0, none⟩), .agg #[.int .i64 (lim : Int), .slice a n c]] w fun e w' => e = .returned (.bool true) ∧ Below w.heap.size w w' := by
  have hlz := hR.len
  have hnl : n ≤ lim := by have := hQ.le; rw [List.length_map] at this; omega
  have hl4 := hQ.lim_le
  have HQ := Lib.hid hQ
  have HR := Lib.hid hR
  have HLZ := Lib.hid hlz
  have hn4 : n ≤ 4096 := by omega
  clear hQ hR hlz
  refine (callsIn_wide (n := 6)).1 ?_
  refine callsIn_of_wp_marks Try.func30 rfl trivial ?_ rfl
  simp only [Try.ntmps30, List.size_toArray, List.length_cons, List.length_nil, Nat.reduceAdd, Nat.reduceSub, Array.replicate_succ, Array.replicate_zero, List.push_toArray, List.append_toArray, List.nil_append, List.cons_append]
  refine wpIn_wide.2 ?_
  refine wp_calm ?_
  go_upto_region 2 with (fail)
  have HX := Lib.hid (AB.new w q lim n c a)
  obtain ⟨W0, hW0⟩ : ∃ x, x = (((w.alloc (.cells #[.int .i64 (lim : Int), .slice a n c] 56)).alloc (.cells #[.bool false] 4)).alloc (.cells #[.int .i64 (n : Int)] 3)) := ⟨_, rfl⟩
  have hs0 : w.heap.size + 3 ≤ W0.heap.size := by rw [hW0]; simp
  rw [← hW0] at HX ⊢
  clear hW0
  obtain ⟨y, hy⟩ : ∃ y, y = zs.getD 0 0 := ⟨_, rfl⟩
  obtain ⟨bb, hbb⟩ : ∃ bb, bb = decide (0 < n) := ⟨_, rfl⟩
  have CH : ∀ W, AB w q lim n c a W → Calls Try.prog 39 #[.pointer (some ⟨q, 0, none⟩)] W fun e w' => e = .returned (.tuple #[.int .i64 y, .bool bb]) ∧ Below W.heap.size W w' := fun W h => by
    have := head_map (HQ.out.below h.below)
    rw [← HLZ.out, ← hy, ← hbb] at this
    exact this
  have CA : ∀ W, AB w q lim n c a W → Calls Try.prog 66 #[.agg #[.int .i64 (lim : Int), .slice a n c], .int .i64 0] W fun e w' => e = .returned (.tuple #[.int .i64 y, .bool bb]) ∧ Below W.heap.size W w' := fun W h => by
    have := rat_ok lim n c 0 a zs 0 W (HR.out.below h.below) hn4
    rw [show (if (0 : Int) ≤ 0 then zs[(0 : Int).toNat]?.getD 0 else 0) = zs.getD 0 0 by simp [List.getD], show decide ((0 : Int) ≤ 0 ∧ (0 : Int) < (n : Int)) = decide (0 < n) by simp, ← hy, ← hbb] at this
    exact this
  have HCH := Lib.hid CH
  have HCA := Lib.hid CA
  clear CH CA hy hbb
  refine alike_test HQ HR HLZ hn4 hnl hl4 HX (Lib.hid ?_)
  intro n16 n17 n18 n19 n20 n21 n22 n23 n24 n25 n26 n27 n28 n29 n30 n31 n32 n33 n34 n35 n36 n37 n38 n39 n40 n41 n42 n43 W1 h43 hX1 hs1
  subst h43
  dsimp only
  have HX1 := Lib.hid hX1
  clear hX1 HX
  go_wp2_with fail
  refine (HCH.out _ HX1.out).mono ?_
  rintro e w2 ⟨rfl, hb⟩
  have HX2 := Lib.hid (HX1.out.call hb)
  have hs2 : W0.heap.size ≤ w2.heap.size := Nat.le_trans hs1 hb.size
  clear hb
  have m0 := HX2.out.m0; have m1 := HX2.out.m1
  go_wp2_with fail
  refine (HCA.out _ HX2.out).mono ?_
  rintro e w3 ⟨rfl, hb⟩
  have HX3 := Lib.hid (HX2.out.call hb)
  have hs3 : W0.heap.size ≤ w3.heap.size := Nat.le_trans hs2 hb.size
  clear hb m0 m1
  go_wp2_with fail
  have HX4 := Lib.hid (HX3.out.call ((Below.refl _ w3).alloc (Nat.le_refl _) (.cells #[.int .i64 0] 3)))
  have hib : (w3.alloc (.cells #[.int .i64 0] 3)).heap[w3.heap.size]? = some (.cells #[.int .i64 0] 3 (0, 0)) := World.alloc_heap_new _ _
  obtain ⟨ib, hibe⟩ : ∃ x, x = w3.heap.size := ⟨_, rfl⟩
  obtain ⟨w4, hw4⟩ : ∃ x, x = w3.alloc (.cells #[.int .i64 0] 3) := ⟨_, rfl⟩
  have hs4 : w4.heap.size = ib + 1 := by rw [hw4, hibe]; simp
  have hi3 : w.heap.size + 3 ≤ ib := by omega
  rw [← hw4, ← hibe] at hib
  rw [← hw4] at HX4
  rw [← hw4, ← hibe]
  have HIB := Lib.hid hib
  clear hw4 hib hibe
  refine (callsIn_wide.1 (all_in 6 (some ⟨q, 0, none⟩) w4)).mono ?_
  rintro e w5 ⟨rfl, rfl⟩
  have hbA : Below w4.heap.size w4 (w4.alloc (.cells #[.pointer (some ⟨q, 0, none⟩)] 23)) := (Below.refl _ _).alloc (Nat.le_refl _) _
  have HAI : Hid (AI w q lim n c a ib w4.heap.size [] (w4.alloc (.cells #[.pointer (some ⟨q, 0, none⟩)] 23))) := Lib.hid ⟨HX4.out.call hbA, blk_below hbA HIB.out, World.alloc_heap_new _ _⟩
  have hne : ib ≠ w4.heap.size := by omega
  have HNE := Lib.hid hne
  clear hbA hs4 hne
  go_wp2_with fail
  refine (wpIn_wide (n := 6)).1 ?_
  refine alike_range hn4 HQ.out HR.out hi3 HNE.out HAI.out (Lib.hid ?_)
  intro D W6 hD hxs hD6
  dsimp only
  obtain ⟨ys, hys, hAI⟩ := hxs
  have hi := hAI.i
  rw [hys] at hi
  have ic : W6.cell? ⟨ib, 0, none⟩ = some (.int .i64 (n : Int)) := by simp [World.cell?, hi]
  have n0 := hAI.ab.n0
  have r0 := hAI.ab.r0
  have rf := hAI.ab.rf
  have HAB := Lib.hid hAI.ab
  have HD := Lib.hid hD6
  have hDw : w.heap.size ≤ D := by have := HAI.out.ab.below.size; omega
  clear hAI hD6 hi hys
  go_wp2_with fail
  have hK' := (KeepsOthers.setCell W6 ⟨w.heap.size + 1, 0, none⟩ (.bool true)).same D _ HD.out rfl
  refine ⟨by simp, .inl ⟨_, _, rfl, run_takeDeferred hK', ?_⟩⟩
  have hc5 := cell_kept (World.cell?_setCell_same' W6 ⟨w.heap.size + 1, 0, none⟩ (.bool true) (by rw [r0]; rfl)) (grownBy_putObj' _ D (.deferred none)) (fun r e => by cases e; exact ⟨_, hK', rfl⟩)
  refine ⟨.bool true, ?_, rfl, (HAB.out.below.setCell (p := ⟨w.heap.size + 1, 0, none⟩) (by simp) _).trans (belowK_b (w := w) (Nat.le_refl _) _ D _ _ hDw hK' rfl rfl)⟩
  simp [results, Try.f30, go_sem, hc5]
end Go.Proofs.Ytahaclglkbgpcaa
