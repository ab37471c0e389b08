/- Of the text NT4 only what this claim needs (shake.py, this repo's). -/
import Derived.Test.YtgjlkplieoajlaaZNT3
set_option linter.unusedVariables false
set_option linter.unusedSimpArgs false
namespace Go.Proofs.Ytgjlkplieoajlaa
open Go.RowKit
open Go.Proofs.YtgjlkplieoajlaaW.PrintWords (Kd Drawn0 Kept rd rdOf)
open Go.Proofs.Ytgjlkplieoajlaa.PTreeWhole
set_option maxRecDepth 100000

/-- May the slot be given? -/
def FreeNk (x : Nk) : Prop := x.f1 = false ∧ x.f0 ≤ 1023
instance (x : Nk) : Decidable (FreeNk x) := by unfold FreeNk; infer_instance

theorem nadd_full (t g n cap : Nat) (kind q : Int) (xs : List Nk) (w : World) (H : NT w t g n cap kind xs) (hT : NM kind n xs) (ha : ∀ (i : Nat) (x : Nk), xs[i]? = some x → ¬ FreeNk x) :
    Calls Try.prog 18 #[.pointer (some ⟨t, 0, none⟩), .agg #[.int .i64 q]] w fun e w' => e = .returned (.tuple #[.int .i64 0, .iface 55 (.int .i64 30)]) ∧ Below w.heap.size w w' := by
  have cw := H.c1
  have lw := H.lt
  obtain ⟨b0, hb0⟩ : ∃ b, b = w.heap.size := ⟨_, rfl⟩
  obtain ⟨W0, hW0⟩ : ∃ W, W = w.alloc (.cells #[.int .i64 q] 50) := ⟨_, rfl⟩
  have hB0 : Below w.heap.size w W0 := by rw [hW0]; exact (Below.refl _ w).alloc (Nat.le_refl _) _
  have HB0 := Lib.hid hB0
  have HW0 := Lib.hid hW0
  have Hb0 := Lib.hid hb0
  replace H := H.below hB0
  have c1 := H.c1
  have hl := H.len
  have hn := hT.n1
  have HH := Lib.hid H
  have HA := Lib.hid ha
  clear H hT ha hB0 hW0 hb0
  go_enter Try.func18, Try.ntmps18
  go_wp2_with fail
  rw [← HW0.out, ← Hb0.out]
  clear cw lw
  go_loop [16] (fun i => ∃ k : Nat, k ≤ n ∧ i = .int .i64 k) (fun i => n - (intOf i).toNat)
  case atStart => exact ⟨0, Nat.zero_le _, rfl⟩
  case round =>
    obtain ⟨k, hk, rfl⟩ := hrel
    by_cases hlt : k < n
    · obtain ⟨x, hx⟩ : ∃ x, xs[k]? = some x := ⟨xs[k], List.getElem?_eq_getElem (by omega)⟩
      have e1 := HH.out.e1 hx
      have e0 := HH.out.e0 hx
      have hno := HA.out k x hx
      clear hx
      obtain ⟨gen, tk, p0⟩ := x
      cases tk with
      | true =>
        clear hno
        go_wp2
        go_round
        case rel => exact ⟨k + 1, by omega, by go_num⟩
        case measure => simp [intOf]; omega
      | false =>
        have t1 : decide (gen ≤ 1023) = false := decide_eq_false (fun h => hno ⟨rfl, h⟩)
        clear hno
        go_wp2
        go_round
        case rel => exact ⟨k + 1, by omega, by go_num⟩
        case measure => simp [intOf]; omega
    · go_wp2
      go_ret2
      exact ⟨rfl, HB0.out⟩

set_option maxHeartbeats 2000000 in
theorem nadd_hit (t g n cap i : Nat) (kind q : Int) (xs : List Nk) (x : Nk) (w : World) (H : NT w t g n cap kind xs) (hT : NM kind n xs) (hx : xs[i]? = some x) (hf : FreeNk x) (ha : ∀ (j : Nat) (y : Nk), j < i → xs[j]? = some y → ¬ FreeNk y) :
    Calls Try.prog 18 #[.pointer (some ⟨t, 0, none⟩), .agg #[.int .i64 q]] w fun e w' => e = .returned (.tuple #[.int .i64 (mk kind i x.f0), .nilIface]) ∧ NT w' t g n cap kind (xs.set i ⟨x.f0, true, q⟩) ∧ Chg (fun k => k = g) w w' := by
  have cw := H.c1
  have lw := H.lt
  obtain ⟨b0, hb0⟩ : ∃ b, b = w.heap.size := ⟨_, rfl⟩
  obtain ⟨W0, hW0⟩ : ∃ W, W = w.alloc (.cells #[.int .i64 q] 50) := ⟨_, rfl⟩
  have hB0 : Below w.heap.size w W0 := by rw [hW0]; exact (Below.refl _ w).alloc (Nat.le_refl _) _
  have v0 : W0.cell? ⟨b0, 0, none⟩ = some (.int .i64 q) := by rw [hW0, hb0]; exact cell_new _ _ _
  have HB0 := Lib.hid hB0
  have HW0 := Lib.hid hW0
  have Hb0 := Lib.hid hb0
  have hgb : g ≠ b0 := by rw [hb0]; exact Nat.ne_of_lt H.ltg
  replace H := H.below hB0
  have c1 := H.c1
  have hl := H.len
  have hn := hT.n1
  have hi : i < n := by have := (List.getElem?_eq_some_iff.1 hx).1; omega
  have HH := Lib.hid H
  have HT := Lib.hid hT
  have HA := Lib.hid ha
  obtain ⟨gen, tk, p0⟩ := x
  obtain ⟨hf1, hf2⟩ := hf
  obtain rfl : tk = false := hf1
  have HX := Lib.hid hx
  have HF := Lib.hid hf2
  clear H hT ha hx hf2 hB0 hW0 hb0
  go_enter Try.func18, Try.ntmps18
  go_wp2_with fail
  rw [← HW0.out, ← Hb0.out]
  clear cw lw
  go_loop [16] (fun u => ∃ k : Nat, k ≤ i ∧ u = .int .i64 k) (fun u => i - (intOf u).toNat)
  case atStart => exact ⟨0, Nat.zero_le _, rfl⟩
  case round =>
    obtain ⟨k, hk, rfl⟩ := hrel
    have hkn : k < n := by omega
    by_cases hlt : k < i
    · obtain ⟨y, hy⟩ : ∃ y, xs[k]? = some y := ⟨xs[k], List.getElem?_eq_getElem (by omega)⟩
      have e1 := HH.out.e1 hy
      have e0 := HH.out.e0 hy
      have hno := HA.out k y hlt hy
      clear hy
      obtain ⟨gen', tk, p1⟩ := y
      cases tk with
      | true =>
        clear hno
        go_wp2
        go_round
        case rel => exact ⟨k + 1, by omega, by go_num⟩
        case measure => simp [intOf]; omega
      | false =>
        have t1 : decide (gen' ≤ 1023) = false := decide_eq_false (fun h => hno ⟨rfl, h⟩)
        clear hno
        go_wp2
        go_round
        case rel => exact ⟨k + 1, by omega, by go_num⟩
        case measure => simp [intOf]; omega
    · obtain rfl : k = i := by omega
      have e1 : W0.cell? ⟨g, k * 3 + 1, none⟩ = some (.bool false) := HH.out.e1 HX.out
      have e0 : W0.cell? ⟨g, k * 3, none⟩ = some (.int .i64 gen) := HH.out.e0 HX.out
      have e2 : W0.cell? ⟨g, k * 3 + 2, none⟩ = some (.int .i64 p0) := HH.out.e2 HX.out
      obtain ⟨f0, f1, f2⟩ := HH.out.f3 k
      have t1 : decide (gen ≤ 1023) = true := decide_eq_true HF.out
      have hkl : k < xs.length := by omega
      obtain ⟨W9, hW9⟩ : ∃ W, W = ((W0.setCell ⟨g, k * 3 + 1, none⟩ (.bool true)).setCell ⟨g, k * 3 + 2, none⟩ (.int .i64 q)).drew := ⟨_, rfl⟩
      have r : NT W9 t g n cap kind (xs.set k ⟨gen, true, q⟩) ∧ Chg (fun k => k = g) W0 W9 := by
        have r := HH.out.set2 HX.out true q rfl
        rw [hW9]
        exact ⟨r.1.drew, r.2.drew⟩
      have N := nname_q t g n cap k kind _ ⟨gen, true, q⟩ _ r.1 (HT.out.set k ⟨gen, true, q⟩ (HT.out.gen k _ HX.out).1 (HT.out.gen k _ HX.out).2 (fun _ => HF.out)) (by simp [hkl]) HF.out
      have HN := Lib.hid N
      have HH2 := Lib.hid r
      have HW9 := Lib.hid hW9
      clear N r hW9
      go_wp2_with fail
      first | go_loud (go_region_with (fail)) | fail
      all_goals
        rw [← HW9.out]
        go_wp2_with fail
        refine HN.out.mono ?_
        rintro e w' ⟨rfl, m, rfl⟩
        go_wp2
        go_ret2
        exact ⟨rfl, HH2.out.1.drewN m, (Chg.ofBelow HB0.out _).trans (HH2.out.2.drewN m)⟩

end Go.Proofs.Ytgjlkplieoajlaa
