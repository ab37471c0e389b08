/- tithelaw04.do: kind 7. -/
import Derived.Deep.RegionWith
import Derived.Test.YtahaclglkbgpcaaFqRb
set_option linter.unusedVariables false
set_option linter.unusedSimpArgs false
namespace Go.Proofs.Ytahaclglkbgpcaa
open Go.RowKit Go.Shelf
set_option maxRecDepth 100000

section
variable {q lim : Nat} {S : Nat → Prop} {w w2 w3 w9 : World}
/-- The queue is cleared. -/
theorem after_clear (hQ : Qu IsI 84 3 w3 q lim [] S) (hc3 : Chg S w2 w3) (hb : Below w.heap.size w w2) (hc : Chg (fun k => w.heap.size ≤ k) w3 w9) (hlt : ∀ k, S k → k < w.heap.size) : After q lim S w w9 none 0 0 [] := by
  refine ⟨S, hQ.chg hc (fun k hk e => by have := hlt k hk; have : w.heap.size ≤ k := e; omega), ⟨World.ownsRow_nil _ _ _ _, rfl, fun _ => ⟨rfl, rfl⟩⟩, fun k hk => by simp [Value.ownBlock] at hk, ⟨hc.os.trans (hc3.os.trans hb.os), hc.tape.trans (hc3.tape.trans hb.tape), hc.output.trans (hc3.output.trans hb.output), Nat.le_trans hb.size (Nat.le_trans hc3.size hc.size), fun k hk hn => ?_⟩, fun k hk => .inl hk⟩
  exact (hc.block k (by have := hb.size; have := hc3.size; omega) (fun e => by have : w.heap.size ≤ k := e; omega)).trans ((hc3.block k (by have := hb.size; omega) hn).trans (hb.block k hk))
end

set_option maxHeartbeats 2000000 in
theorem do_look {q lim n c : Nat} {a : Option Addr} {K I V : Int} {zs : List Int} {S : Nat → Prop} {w : World} {kd : Int} (hkd : (wrap64 (K.tmod 8 + 8)).tmod 8 = kd) (hk : kd = 7) (hQ : Qu IsI 84 3 w q lim (zs.map (Value.int .i64)) S) (hR : RL w 0 a n c zs) (hd : ∀ k, (Value.slice a n c).ownBlock = some k → ¬ S k) :
    Calls Try.prog 29 #[.pointer (some ⟨q, 0, none⟩), .agg #[.int .i64 (lim : Int), .slice a n c], .agg #[.int .i64 K, .int .i64 I, .int .i64 V]] w fun e w' => ∃ a' n' c' zs', e = .returned (.tuple #[.agg #[.int .i64 (lim : Int), .slice a' n' c'], .bool true]) ∧ After q lim S w w' a' n' c' zs' := by
  have hn : n ≤ 4096 := by have := hQ.le; have := hQ.lim_le; have := hR.len; rw [List.length_map] at *; omega
  have hnl : n ≤ lim := by have := hQ.le; have := hR.len; rw [List.length_map] at *; omega
  have hlt := hQ.lt
  have HLT := Lib.hid hlt
  have HQ := Lib.hid hQ
  have HR := Lib.hid hR
  have HDJ := Lib.hid hd
  clear hQ hR hd hlt
  go_enter Try.func29, Try.ntmps29
  go_upto_region 3 with (fail)
  have HX := Lib.hid (DB.new w lim n c a K I V)
  obtain ⟨W0, hW0⟩ : ∃ x, x = ((((w.alloc (.cells #[.int .i64 (lim : Int), .slice a n c] 56)).alloc (.cells #[.int .i64 K, .int .i64 I, .int .i64 V] 63)).alloc (.cells #[.int .i64 0, .slice none 0 0] 56)).alloc (.cells #[.int .i64 (lim : Int), .slice a n c] 56)) := ⟨_, rfl⟩
  have hb0 : Below w.heap.size w W0 := by rw [hW0]; exact ((((Below.refl _ w).alloc (Nat.le_refl _) _).alloc (by simp) _).alloc (by simp [World.size_alloc]; omega) _).alloc (by simp [World.size_alloc]; omega) _
  rw [← hW0] at HX ⊢
  have HB0 := Lib.hid hb0
  clear hW0 hb0
  have m0 := HX.out.m0; have m1 := HX.out.m1; have a0 := HX.out.a0; have a1 := HX.out.a1; have a2 := HX.out.a2
  subst hk
  have A1 := at_map (HQ.out.below HB0.out) I
  obtain ⟨y, hy⟩ : ∃ y, y = (if 0 ≤ I then zs[I.toNat]?.getD 0 else 0) := ⟨_, rfl⟩
  obtain ⟨bb, hbb⟩ : ∃ bb, bb = decide (0 ≤ I ∧ I < (n : Int)) := ⟨_, rfl⟩
  rw [← HR.out.len, ← hy, ← hbb] at A1
  have HA1 := Lib.hid A1
  have A2 : ∀ W : World, Below w.heap.size w W → Calls Try.prog 66 #[.agg #[.int .i64 (lim : Int), .slice a n c], .int .i64 I] W fun e w' => e = .returned (.tuple #[.int .i64 y, .bool bb]) ∧ Below W.heap.size W w' := fun W hb => by
    have := rat_ok lim n c 0 a zs I W (HR.out.below hb) hn
    rw [← hy, ← hbb] at this
    exact this
  have HA2 := Lib.hid A2
  clear A1 A2 hy hbb
  go_wp2_with fail
  refine HA1.out.mono ?_
  rintro e w1 ⟨rfl, hb⟩
  have HX1 := Lib.hid (HX.out.call hb)
  have HB1 := Lib.hid (below_call HB0.out (Nat.le_refl _) hb)
  clear hb m0 m1 a0 a1 a2
  have m0 := HX1.out.m0; have m1 := HX1.out.m1; have a0 := HX1.out.a0; have a1 := HX1.out.a1; have a2 := HX1.out.a2
  go_wp2_with fail
  refine (HA2.out w1 HB1.out).mono ?_
  rintro e w2 ⟨rfl, hb⟩
  have HX2 := Lib.hid (HX1.out.call hb)
  have HB2 := Lib.hid (below_call HB1.out (Nat.le_refl _) hb)
  have HQ2 := Lib.hid (HQ.out.below HB2.out)
  clear hb m0 m1 a0 a1 a2
  have m0 := HX2.out.m0; have m1 := HX2.out.m1; have a0 := HX2.out.a0; have a1 := HX2.out.a1; have a2 := HX2.out.a2
  by_cases hv : V.tmod 5 = 0
  · have t5 : (V.tmod 5 == 0) = true := by simpa using hv
    have CL : ∀ W : World, W = w2 ∨ W = w2.drew → Calls Try.prog 20 #[.pointer (some ⟨q, 0, none⟩)] W fun e w' => e = .returned (.int .i64 (n : Int)) ∧ Qu IsI 84 3 w' q lim [] S ∧ Chg S w2 w' := fun W hW => by
      have e : W.heap = w2.heap := by rcases hW with rfl | rfl <;> rfl
      have := clear_full (HQ2.out.heap e)
      rw [List.length_map, ← HR.out.len] at this
      refine this.mono ?_
      rintro e w' ⟨rfl, h1, h2⟩
      refine ⟨rfl, h1, ?_⟩
      rcases hW with rfl | rfl
      · exact h2
      · exact (Chg.refl S w2).drew.trans h2
    have HCL := Lib.hid CL
    have x0 := HX2.out.x0; have x1 := HX2.out.x1; have xf0 := HX2.out.xf 0; have xf1 := HX2.out.xf 1
    clear CL
    go_wp2_with fail
    first
      | go_region_with (go_at_call 20; refine (HCL.out _ (by first | exact .inl rfl | exact .inr rfl)).mono ?_; rintro e w3 ⟨rfl, Q3, C3⟩; have HX3 := Lib.hid (HX2.out.chg C3 (fun k hk => .inl (HLT.out k hk))); have HQ3 := Lib.hid Q3; have HC3 := Lib.hid C3; have m30 := HX3.out.m0; have m31 := HX3.out.m1; have x30 := HX3.out.x0; have x31 := HX3.out.x1; have xf30 := HX3.out.xf 0; have xf31 := HX3.out.xf 1; have r30 := HX3.out.r0; have r31 := HX3.out.r1; have rf30 := HX3.out.rf 0; have rf31 := HX3.out.rf 1; clear Q3 C3)
      | fail
    all_goals
      go_wp2_with fail
      have hC9 : Chg (fun k => w.heap.size ≤ k) w3 ((((w3.setCell ⟨w.heap.size + 3, 0, none⟩ (.int .i64 (lim : Int))).setCell ⟨w.heap.size + 3, 1, none⟩ (.slice none 0 0)).setCell ⟨w.heap.size + 2, 0, none⟩ (.int .i64 (lim : Int))).setCell ⟨w.heap.size + 2, 1, none⟩ (.slice none 0 0)) := ((((Chg.refl (fun k => w.heap.size ≤ k) w3).setCell ⟨w.heap.size + 3, 0, none⟩ _ (by simp)).setCell ⟨w.heap.size + 3, 1, none⟩ _ (by simp)).setCell ⟨w.heap.size + 2, 0, none⟩ _ (by simp)).setCell ⟨w.heap.size + 2, 1, none⟩ _ (by simp)
      refine bodyPost_ret (v := .tuple #[.agg #[.int .i64 (lim : Int), .slice none 0 0], .bool true]) ?_ rfl ⟨none, 0, 0, [], rfl, after_clear HQ3.out HC3.out HB2.out hC9 HLT.out⟩
      simp [results, Try.results29, go_sem, r30, r31]
  · have t5 : (V.tmod 5 == 0) = false := by simpa using hv
    have r0 := HX2.out.r0; have r1 := HX2.out.r1; have rf0 := HX2.out.rf 0; have rf1 := HX2.out.rf 1; have x0 := HX2.out.x0; have x1 := HX2.out.x1
    go_wp2_with fail
    have hC9 : Chg (fun k => k = w.heap.size + 2) w2 ((w2.setCell ⟨w.heap.size + 2, 0, none⟩ (.int .i64 (lim : Int))).setCell ⟨w.heap.size + 2, 1, none⟩ (.slice a n c)) := ((Chg.refl (fun k => k = w.heap.size + 2) w2).setCell ⟨w.heap.size + 2, 0, none⟩ _ rfl).setCell ⟨w.heap.size + 2, 1, none⟩ _ rfl
    refine bodyPost_ret (v := .tuple #[.agg #[.int .i64 (lim : Int), .slice a n c], .bool true]) ?_ rfl ⟨a, n, c, zs, rfl, after_same HQ2.out HR.out HDJ.out HB2.out hC9 HLT.out⟩
    simp [results, Try.results29, go_sem, r0, r1]
end Go.Proofs.Ytahaclglkbgpcaa
