/- tithelaw04.do: kind 3. -/
import Derived.Test.YtahaclglkbgpcaaFqRb
set_option linter.unusedVariables false
set_option linter.unusedSimpArgs false
namespace Go.Proofs.Ytahaclglkbgpcaa
open Go.RowKit Go.Shelf
set_option maxRecDepth 100000

set_option maxHeartbeats 2000000 in
theorem do_pop {q lim n c : Nat} {a : Option Addr} {K I V : Int} {zs : List Int} {S : Nat → Prop} {w : World} {kd : Int} (hkd : (wrap64 (K.tmod 8 + 8)).tmod 8 = kd) (hk : kd = 3) (hQ : Qu IsI 84 3 w q lim (zs.map (Value.int .i64)) S) (hR : RL w 0 a n c zs) (hd : ∀ k, (Value.slice a n c).ownBlock = some k → ¬ S k) :
    Calls Try.prog 29 #[.pointer (some ⟨q, 0, none⟩), .agg #[.int .i64 (lim : Int), .slice a n c], .agg #[.int .i64 K, .int .i64 I, .int .i64 V]] w fun e w' => ∃ a' n' c' zs', e = .returned (.tuple #[.agg #[.int .i64 (lim : Int), .slice a' n' c'], .bool true]) ∧ After q lim S w w' a' n' c' zs' := by
  have hn : n ≤ 4096 := by have := hQ.le; have := hQ.lim_le; have := hR.len; rw [List.length_map] at *; omega
  have hnl : n ≤ lim := by have := hQ.le; have := hR.len; rw [List.length_map] at *; omega
  have hlt := hQ.lt
  have HLT := Lib.hid hlt
  have HQ := Lib.hid hQ
  have HR := Lib.hid hR
  have HDJ := Lib.hid hd
  clear hQ hR hd hlt
  go_enter Try.func29, Try.ntmps29
  go_upto_region 3 with (fail)
  have HX := Lib.hid (DB.new w lim n c a K I V)
  obtain ⟨W0, hW0⟩ : ∃ x, x = ((((w.alloc (.cells #[.int .i64 (lim : Int), .slice a n c] 56)).alloc (.cells #[.int .i64 K, .int .i64 I, .int .i64 V] 63)).alloc (.cells #[.int .i64 0, .slice none 0 0] 56)).alloc (.cells #[.int .i64 (lim : Int), .slice a n c] 56)) := ⟨_, rfl⟩
  have hb0 : Below w.heap.size w W0 := by rw [hW0]; exact ((((Below.refl _ w).alloc (Nat.le_refl _) _).alloc (by simp) _).alloc (by simp [World.size_alloc]; omega) _).alloc (by simp [World.size_alloc]; omega) _
  rw [← hW0] at HX ⊢
  have HB0 := Lib.hid hb0
  clear hW0 hb0
  have m0 := HX.out.m0; have m1 := HX.out.m1; have a0 := HX.out.a0; have a1 := HX.out.a1; have a2 := HX.out.a2
  subst hk
  by_cases h0 : n = 0
  · have hz : zs = [] := List.length_eq_zero_iff.1 (by have := HR.out.len; omega)
    subst hz
    subst h0
    have A := rdrop_none lim 0 c 0 a [] 0 W0 (HR.out.below HB0.out) hn (by omega)
    have HA := Lib.hid A
    clear A
    go_wp2_with fail
    refine HA.out.mono ?_
    rintro e w1 ⟨rfl, hb⟩
    have HX1 := Lib.hid (HX.out.call hb)
    have HB1 := Lib.hid (below_call HB0.out (Nat.le_refl _) hb)
    clear hb m0 m1 a0 a1 a2
    have m0 := HX1.out.m0; have m1 := HX1.out.m1; have a0 := HX1.out.a0; have a1 := HX1.out.a1; have a2 := HX1.out.a2; have x0 := HX1.out.x0; have x1 := HX1.out.x1; have xf0 := HX1.out.xf 0; have xf1 := HX1.out.xf 1
    go_wp2_with fail
    obtain ⟨w2, hw2⟩ : ∃ y, y = (w1.setCell ⟨w.heap.size + 1 + 1 + 1, 0, none⟩ (.int .i64 (lim : Int))).setCell ⟨w.heap.size + 1 + 1 + 1, 1, none⟩ (.slice a 0 c) := ⟨_, rfl⟩
    have hX2 := HX1.out.next (.slice a 0 c)
    have hw3 : w2 = (w1.setCell ⟨w.heap.size + 3, 0, none⟩ (.int .i64 (lim : Int))).setCell ⟨w.heap.size + 3, 1, none⟩ (.slice a 0 c) := hw2
    rw [← hw3] at hX2
    clear hw3
    have hB2 : Below w.heap.size w w2 := by rw [hw2]; exact (HB1.out.setCell (p := ⟨w.heap.size + 3, 0, none⟩) (by simp) _).setCell (p := ⟨w.heap.size + 3, 1, none⟩) (by simp) _
    have hC2 : Chg (fun k => k = w.heap.size + 3) w1 w2 := by rw [hw2]; exact ((Chg.refl (fun k => k = w.heap.size + 3) w1).setCell ⟨w.heap.size + 3, 0, none⟩ _ rfl).setCell ⟨w.heap.size + 3, 1, none⟩ _ rfl
    rw [← hw2]
    have HX2 := Lib.hid hX2
    have HB2 := Lib.hid hB2
    have HC2 := Lib.hid hC2
    have HQ2 := Lib.hid (HQ.out.below hB2)
    clear hw2 hX2 hB2 hC2 m0 m1 a0 a1 a2 x0 x1 xf0 xf1
    have m0 := HX2.out.m0; have m1 := HX2.out.m1; have a0 := HX2.out.a0; have a1 := HX2.out.a1; have a2 := HX2.out.a2
    have c2 : w2.cell? ⟨q, 2, none⟩ = some (.int .i64 ((0 : Nat) : Int)) := by have := HQ2.out.c2; exact this
    refine (pop_none q 0 w2 c2 (by omega)).mono ?_
    rintro e w3 ⟨rfl, rfl⟩
    go_wp2_with fail
    refine (num_errno _ _).mono ?_
    rintro e w3 ⟨rfl, rfl⟩
    clear m0 m1 a0 a1 a2
    have r0 := HX2.out.r0; have r1 := HX2.out.r1; have rf0 := HX2.out.rf 0; have rf1 := HX2.out.rf 1; have x0 := HX2.out.x0; have x1 := HX2.out.x1
    go_wp2_with fail
    have hC9 : Chg (fun k => k = w.heap.size + 2) w2 ((w2.setCell ⟨w.heap.size + 2, 0, none⟩ (.int .i64 (lim : Int))).setCell ⟨w.heap.size + 2, 1, none⟩ (.slice a 0 c)) := ((Chg.refl (fun k => k = w.heap.size + 2) w2).setCell ⟨w.heap.size + 2, 0, none⟩ _ rfl).setCell ⟨w.heap.size + 2, 1, none⟩ _ rfl
    refine bodyPost_ret (v := .tuple #[.agg #[.int .i64 (lim : Int), .slice a 0 c], .bool true]) ?_ rfl ⟨a, 0, c, [], rfl, after_same HQ2.out HR.out HDJ.out HB2.out hC9 HLT.out⟩
    simp [results, Try.results29, go_sem, r0, r1]
  · obtain ⟨z, zt, rfl⟩ : ∃ z zt, zs = z :: zt := by
      cases zs with
      | nil => exact absurd (by have := HR.out.len; simpa using this) h0
      | cons z zt => exact ⟨z, zt, rfl⟩
    have hgz : (z :: zt).getD 0 0 = z := rfl
    have hez : (z :: zt).eraseIdx 0 = zt := rfl
    have A := rdrop_ok lim n c 0 0 a (z :: zt) W0 (HR.out.below HB0.out) hn (by omega)
    rw [hgz, hez] at A
    have HA := Lib.hid A
    clear A
    go_wp2_with fail
    refine HA.out.mono ?_
    rintro e w1 ⟨a', c', rfl, hRL, hb⟩
    have HRL := Lib.hid hRL
    clear hRL
    have HX1 := Lib.hid (HX.out.call hb)
    have HB1 := Lib.hid (below_call HB0.out (Nat.le_refl _) hb)
    clear hb m0 m1 a0 a1 a2
    have m0 := HX1.out.m0; have m1 := HX1.out.m1; have a0 := HX1.out.a0; have a1 := HX1.out.a1; have a2 := HX1.out.a2; have x0 := HX1.out.x0; have x1 := HX1.out.x1; have xf0 := HX1.out.xf 0; have xf1 := HX1.out.xf 1
    go_wp2_with fail
    obtain ⟨w2, hw2⟩ : ∃ y, y = (w1.setCell ⟨w.heap.size + 1 + 1 + 1, 0, none⟩ (.int .i64 (lim : Int))).setCell ⟨w.heap.size + 1 + 1 + 1, 1, none⟩ (.slice a' (n - 1) c') := ⟨_, rfl⟩
    have hX2 := HX1.out.next (.slice a' (n - 1) c')
    have hw3 : w2 = (w1.setCell ⟨w.heap.size + 3, 0, none⟩ (.int .i64 (lim : Int))).setCell ⟨w.heap.size + 3, 1, none⟩ (.slice a' (n - 1) c') := hw2
    rw [← hw3] at hX2
    clear hw3
    have hB2 : Below w.heap.size w w2 := by rw [hw2]; exact (HB1.out.setCell (p := ⟨w.heap.size + 3, 0, none⟩) (by simp) _).setCell (p := ⟨w.heap.size + 3, 1, none⟩) (by simp) _
    have hC2 : Chg (fun k => k = w.heap.size + 3) w1 w2 := by rw [hw2]; exact ((Chg.refl (fun k => k = w.heap.size + 3) w1).setCell ⟨w.heap.size + 3, 0, none⟩ _ rfl).setCell ⟨w.heap.size + 3, 1, none⟩ _ rfl
    rw [← hw2]
    have HX2 := Lib.hid hX2
    have HB2 := Lib.hid hB2
    have HC2 := Lib.hid hC2
    have HQ2 := Lib.hid (HQ.out.below hB2)
    clear hw2 hX2 hB2 hC2 m0 m1 a0 a1 a2 x0 x1 xf0 xf1
    have m0 := HX2.out.m0; have m1 := HX2.out.m1; have a0 := HX2.out.a0; have a1 := HX2.out.a1; have a2 := HX2.out.a2
    have P := pop_ok _ (x := z) (vs := zt.map (Value.int .i64)) HQ2.out
    have HP := Lib.hid P
    clear P
    refine HP.out.mono ?_
    rintro e w3 ⟨rfl, Q3, C3⟩
    have F3 : ∀ k, S k → S k ∨ w2.heap.size ≤ k := fun k hk => .inl hk
    clear HP
    have HX3 := Lib.hid (HX2.out.chg C3 (fun k hk => .inl (HLT.out k hk)))
    have HQ3 := Lib.hid Q3
    have HC3 := Lib.hid C3
    have HF3 := Lib.hid F3
    clear Q3 C3 F3
    go_wp2_with fail
    refine (num_nil _).mono ?_
    rintro e w4 ⟨rfl, rfl⟩
    clear m0 m1 a0 a1 a2
    have r0 := HX3.out.r0; have r1 := HX3.out.r1; have rf0 := HX3.out.rf 0; have rf1 := HX3.out.rf 1; have x0 := HX3.out.x0; have x1 := HX3.out.x1
    go_wp2_with fail
    have hC9 : Chg (fun k => k = w.heap.size + 2) w3 ((w3.setCell ⟨w.heap.size + 2, 0, none⟩ (.int .i64 (lim : Int))).setCell ⟨w.heap.size + 2, 1, none⟩ (.slice a' (n - 1) c')) := ((Chg.refl (fun k => k = w.heap.size + 2) w3).setCell ⟨w.heap.size + 2, 0, none⟩ _ rfl).setCell ⟨w.heap.size + 2, 1, none⟩ _ rfl
    refine bodyPost_ret (v := .tuple #[.agg #[.int .i64 (lim : Int), .slice a' (n - 1) c'], .bool true]) ?_ rfl ⟨a', n - 1, c', zt, rfl, after_new HQ3.out HRL.out HX.out.size HX2.out.size HC2.out HC3.out HF3.out HB2.out hC9 HLT.out⟩
    simp [results, Try.results29, go_sem, r0, r1]
end Go.Proofs.Ytahaclglkbgpcaa
