/- A table's Add, by contract. -/
import Derived.Test.YtgjlkplieoajlaaDoorSl3
set_option linter.unusedVariables false
set_option linter.unusedSimpArgs false
namespace Go.Proofs.YtgjlkplieoajlaaDoor
open Go.RowKit
open Go.Proofs.YtgjlkplieoajlaaDoorW.PrintWords (Kd Drawn0 Kept rd rdOf)
open Go.Proofs.YtgjlkplieoajlaaDoor.PSlotsTwins
set_option maxRecDepth 100000

/-- May the slot be given? -/
def FreeSl (x : Sl) : Prop := x.f1 = false ∧ x.f0 ≤ 1023
instance (x : Sl) : Decidable (FreeSl x) := by unfold FreeSl; infer_instance

theorem add_nil (v : Int) (w : World) :
    Calls Tryd.prog 15 #[.pointer none, .int .i64 v] w fun e w' => e = .returned (.tuple #[.int .i64 0, .iface 85 (.int .i64 30)]) ∧ w = w' := by
  go_enter Tryd.func15, Tryd.ntmps15
  go_wp2
  go_ret2
  exact ⟨rfl, rfl⟩

theorem add_full (t g n cap : Nat) (kind v : Int) (xs : List Sl) (w : World) (H : TB w t g n cap kind xs) (hT : Tk kind n xs) (ha : ∀ (i : Nat) (x : Sl), xs[i]? = some x → ¬ FreeSl x) :
    Calls Tryd.prog 15 #[.pointer (some ⟨t, 0, none⟩), .int .i64 v] w fun e w' => e = .returned (.tuple #[.int .i64 0, .iface 85 (.int .i64 30)]) ∧ w = w' := by
  have c1 := H.c1
  have hl := H.len
  have hn := hT.n1
  have HH := Lib.hid H
  have HA := Lib.hid ha
  clear H hT ha
  go_enter Tryd.func15, Tryd.ntmps15
  go_wp2
  go_loop [16] (fun i => ∃ k : Nat, k ≤ n ∧ i = .int .i64 k) (fun i => n - (intOf i).toNat)
  case atStart => exact ⟨0, Nat.zero_le _, rfl⟩
  case round =>
    obtain ⟨k, hk, rfl⟩ := hrel
    by_cases hlt : k < n
    · obtain ⟨x, hx⟩ : ∃ x, xs[k]? = some x := ⟨xs[k], List.getElem?_eq_getElem (by omega)⟩
      have e1 := HH.out.e1 hx
      have e0 := HH.out.e0 hx
      have hno := HA.out k x hx
      clear hx
      obtain ⟨gen, tk, thing⟩ := x
      cases tk with
      | true =>
        clear hno
        go_wp2
        go_round
        case rel => exact ⟨k + 1, by omega, by go_num⟩
        case measure => simp [intOf]; omega
      | false =>
        have t1 : decide (gen ≤ 1023) = false := decide_eq_false (fun h => hno ⟨rfl, h⟩)
        clear hno
        go_wp2
        go_round
        case rel => exact ⟨k + 1, by omega, by go_num⟩
        case measure => simp [intOf]; omega
    · go_wp2
      go_ret2
      exact ⟨rfl, rfl⟩

theorem add_hit (t g n cap i : Nat) (kind v : Int) (xs : List Sl) (x : Sl) (w : World) (H : TB w t g n cap kind xs) (hT : Tk kind n xs) (hx : xs[i]? = some x) (hf : FreeSl x) (ha : ∀ (j : Nat) (y : Sl), j < i → xs[j]? = some y → ¬ FreeSl y) :
    Calls Tryd.prog 15 #[.pointer (some ⟨t, 0, none⟩), .int .i64 v] w fun e w' => e = .returned (.tuple #[.int .i64 (mk kind i x.f0), .nilIface]) ∧ TB w' t g n cap kind (xs.set i ⟨x.f0, true, v⟩) ∧ Chg (fun k => k = g) w w' := by
  have c1 := H.c1
  have hl := H.len
  have hn := hT.n1
  have hi : i < n := by have := (List.getElem?_eq_some_iff.1 hx).1; omega
  have HH := Lib.hid H
  have HT := Lib.hid hT
  have HA := Lib.hid ha
  obtain ⟨gen, tk, thing⟩ := x
  obtain ⟨hf1, hf2⟩ := hf
  obtain rfl : tk = false := hf1
  have HX := Lib.hid hx
  have HF := Lib.hid hf2
  clear H hT ha hx hf2
  go_enter Tryd.func15, Tryd.ntmps15
  go_wp2
  go_loop [16] (fun u => ∃ k : Nat, k ≤ i ∧ u = .int .i64 k) (fun u => i - (intOf u).toNat)
  case atStart => exact ⟨0, Nat.zero_le _, rfl⟩
  case round =>
    obtain ⟨k, hk, rfl⟩ := hrel
    have hkn : k < n := by omega
    by_cases hlt : k < i
    · obtain ⟨y, hy⟩ : ∃ y, xs[k]? = some y := ⟨xs[k], List.getElem?_eq_getElem (by omega)⟩
      have e1 := HH.out.e1 hy
      have e0 := HH.out.e0 hy
      have hno := HA.out k y hlt hy
      clear hy
      obtain ⟨gen', tk, thing'⟩ := y
      cases tk with
      | true =>
        clear hno
        go_wp2
        go_round
        case rel => exact ⟨k + 1, by omega, by go_num⟩
        case measure => simp [intOf]; omega
      | false =>
        have t1 : decide (gen' ≤ 1023) = false := decide_eq_false (fun h => hno ⟨rfl, h⟩)
        clear hno
        go_wp2
        go_round
        case rel => exact ⟨k + 1, by omega, by go_num⟩
        case measure => simp [intOf]; omega
    · obtain rfl : k = i := by omega
      have e1 : w.cell? ⟨g, k * 3 + 1, none⟩ = some (.bool false) := HH.out.e1 HX.out
      have e0 : w.cell? ⟨g, k * 3, none⟩ = some (.int .i64 gen) := HH.out.e0 HX.out
      have e2 : w.cell? ⟨g, k * 3 + 2, none⟩ = some (.int .i64 thing) := HH.out.e2 HX.out
      have f1 := HH.out.f1 HX.out
      have f2 := HH.out.f2 HX.out
      have t1 : decide (gen ≤ 1023) = true := decide_eq_true HF.out
      have hkl : k < xs.length := by omega
      have H2 : TB ((w.setCell ⟨g, k * 3 + 1, none⟩ (.bool true)).setCell ⟨g, k * 3 + 2, none⟩ (.int .i64 v)) t g n cap kind (xs.set k ⟨gen, true, v⟩) := by
        have h1 := HH.out.set HX.out 1 (.bool true) ⟨gen, true, thing⟩ (by omega) rfl
        have h2 := h1.set (i := k) (x := ⟨gen, true, thing⟩) (by simp [hkl]) 2 (.int .i64 v) ⟨gen, true, v⟩ (by omega) rfl
        simpa using h2
      have N := name_q t g n cap k kind _ ⟨gen, true, v⟩ _ H2 (HT.out.set k ⟨gen, true, v⟩ (HT.out.gen k _ HX.out).1 (HT.out.gen k _ HX.out).2 (fun _ => HF.out)) (by simp [hkl]) HF.out
      have HN := Lib.hid N
      have HH2 := Lib.hid H2
      clear N H2
      go_wp2_with fail
      refine HN.out.mono ?_
      rintro e w' ⟨rfl, m, rfl⟩
      go_wp2
      go_ret2
      exact ⟨rfl, HH2.out.drewN m, (((Chg.refl (fun k => k = g) w).setCell ⟨g, k * 3 + 1, none⟩ _ rfl).setCell ⟨g, k * 3 + 2, none⟩ _ rfl).drewN m⟩

end Go.Proofs.YtgjlkplieoajlaaDoor
