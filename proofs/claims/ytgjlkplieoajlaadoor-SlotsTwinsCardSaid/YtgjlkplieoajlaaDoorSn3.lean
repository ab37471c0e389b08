/- The reference's Slots and Load, by contract. -/
import Derived.Test.YtgjlkplieoajlaaDoorSn2
set_option linter.unusedVariables false
set_option linter.unusedSimpArgs false
namespace Go.Proofs.YtgjlkplieoajlaaDoor
open Go.RowKit
open Go.Proofs.YtgjlkplieoajlaaDoorW.PrintWords (Kd Drawn0 Kept rd rdOf)
open Go.Proofs.YtgjlkplieoajlaaDoor.PSlotsTwins
set_option maxRecDepth 100000

/-- May the number be? -/
def okGen (gs : List Int) (ts : List Bool) (i : Nat) : Prop := 1 ≤ gs.getD i 0 ∧ gs.getD i 0 ≤ (if ts.getD i false = true then 1023 else 1024)

section
variable {w : World} {A1 : Option Addr} {n c1 : Nat} {A2 : Option Addr} {m c2 : Nat} {A3 : Option Addr} {p c3 : Nat} {gs : List Int} {ts : List Bool} {hs : List Int}

theorem rslots_len (hne : m ≠ n) :
    Calls Tryd.prog 49 #[.slice A1 n c1, .slice A2 m c2] w fun e w' => e = .returned (.tuple #[.int .i64 0, .int .i64 270]) ∧ w = w' := by
  have t1 : ((m : Int) == (n : Int)) = false := by simp; omega
  have t2 : (m == n) = false := by simp; omega
  clear hne
  go_enter Tryd.func49, Tryd.ntmps49
  go_wp2
  go_ret2
  exact ⟨rfl, rfl⟩

/-- What Slots tells. -/
def RSlotsPost (w : World) (n : Nat) (gs : List Int) (ts : List Bool) (e : Ending) (w' : World) : Prop :=
  w = w' ∧ ((∀ i, i < n → okGen gs ts i) ∧ e = .returned (.tuple #[.int .i64 (cntT ts n : Int), .int .i64 0]) ∨ ¬ (∀ i, i < n → okGen gs ts i) ∧ e = .returned (.tuple #[.int .i64 0, .int .i64 270]))

set_option maxHeartbeats 1000000 in
theorem rslots_any (n1 : n ≤ 4096) (h1 : (Kd.int .i64).C w A1 n gs) (h2 : Kd.bool.C w A2 n ts) :
    Calls Tryd.prog 49 #[.slice A1 n c1, .slice A2 n c2] w (RSlotsPost w n gs ts) := by
  have H1 := Lib.hid h1
  have H2 := Lib.hid h2
  clear h1 h2
  go_enter Tryd.func49, Tryd.ntmps49
  go_wp2
  go_loop [6, 7] (fun a i => ∃ k : Nat, k ≤ n ∧ i = .int .i64 k ∧ Hid (∀ i, i < k → okGen gs ts i) ∧ ∃ c : Nat, c ≤ k ∧ a = .int .i64 c ∧ Hid (c = cntT ts k)) (fun _ i => n - (intOf i).toNat)
  case atStart => exact ⟨0, Nat.zero_le _, rfl, Lib.hid (fun i h => absurd h (Nat.not_lt_zero i)), 0, Nat.le_refl _, rfl, Lib.hid (cntT_zero ts).symm⟩
  case round =>
    obtain ⟨k, hk, rfl, hO, c, hck, rfl, hC⟩ := hrel
    by_cases hlt : k < n
    · obtain ⟨ad1, rfl, x1⟩ := cell_int H1.out hlt
      obtain ⟨ad2, rfl, x2⟩ := cell_bool H2.out hlt
      have hTb : ts[k]? = some (ts.getD k false) := by
        have := H2.out.1
        rw [List.getD_eq_getElem?_getD, List.getElem?_eq_getElem (by omega)]; rfl
      have HCS := Lib.hid (cntT_succ hTb)
      have HNX := Lib.hid (fun (h : okGen gs ts k) => show ∀ i, i < k + 1 → okGen gs ts i from fun i hi => (Nat.lt_or_ge i k).elim (hO.out i) (fun h2 => (show k = i from by omega) ▸ h))
      have HKO := Lib.hid (show okGen gs ts k ↔ (1 ≤ gs.getD k 0 ∧ gs.getD k 0 ≤ (if ts.getD k false = true then 1023 else 1024)) from Iff.rfl)
      clear hTb
      generalize gs.getD k 0 = gk at x1 HKO
      generalize ts.getD k false = tk at x2 HKO HCS
      by_cases hko : okGen gs ts k
      · have HNX2 := Lib.hid (HNX.out hko)
        obtain ⟨o1, o2⟩ := HKO.out.1 hko
        clear hko
        cases tk with
        | false =>
          have o2' : gk ≤ 1024 := by simpa using o2
          have t1 : decide (gk < 1) = false := decide_eq_false (by omega)
          have t2 : decide (1024 < gk) = false := decide_eq_false (by omega)
          clear o1 o2 o2'
          go_wp2
          go_round
          case rel => exact ⟨k + 1, by omega, by go_num, HNX2, c, by omega, rfl, Lib.hid (by rw [HCS.out]; simpa using hC.out)⟩
          case measure => simp [intOf]; omega
        | true =>
          have o2' : gk ≤ 1023 := by simpa using o2
          have t1 : decide (gk < 1) = false := decide_eq_false (by omega)
          have t2 : decide (1023 < gk) = false := decide_eq_false (by omega)
          clear o1 o2 o2'
          go_wp2
          go_round
          case rel => exact ⟨k + 1, by omega, by go_num, HNX2, c + 1, by omega, by go_num, Lib.hid (by rw [HCS.out, hC.out]; rfl)⟩
          case measure => simp [intOf]; omega
      · have HBad := Lib.hid (show ¬ (∀ i, i < n → okGen gs ts i) from fun h => hko (h k hlt))
        have htest : decide (gk < 1) = true ∨ (decide (gk < 1) = false ∧ ((tk = false ∧ decide (1024 < gk) = true) ∨ (tk = true ∧ decide (1023 < gk) = true))) := by
          rcases Int.lt_or_le gk 1 with h1 | h1
          · exact .inl (decide_eq_true h1)
          · refine .inr ⟨decide_eq_false (by omega), ?_⟩
            cases tk with
            | false =>
              refine .inl ⟨rfl, decide_eq_true ?_⟩
              rcases Int.lt_or_le 1024 gk with h2 | h2
              · exact h2
              · exact absurd (HKO.out.2 ⟨h1, by simpa using h2⟩) hko
            | true =>
              refine .inr ⟨rfl, decide_eq_true ?_⟩
              rcases Int.lt_or_le 1023 gk with h2 | h2
              · exact h2
              · exact absurd (HKO.out.2 ⟨h1, by simpa using h2⟩) hko
        clear hko
        rcases htest with u1 | ⟨u1, ⟨rfl, u2⟩ | ⟨rfl, u2⟩⟩
        · cases tk
          all_goals
            go_wp2
            go_ret2
            exact ⟨rfl, .inr ⟨HBad.out, rfl⟩⟩
        all_goals
          go_wp2
          go_ret2
          exact ⟨rfl, .inr ⟨HBad.out, rfl⟩⟩
    · obtain rfl : k = n := by omega
      go_wp2
      go_ret2
      exact ⟨rfl, .inl ⟨hO.out, by rw [← hC.out]; rfl⟩⟩
end

section
variable {w : World} {B n : Nat} {A1 : Option Addr} {c1 : Nat} {A2 : Option Addr} {c2 : Nat} {A3 : Option Addr} {c3 : Nat} {xs : List Sl}
theorem RT.set1 {g1 : Nat} (R : RT w B n (some ⟨g1, 0, none⟩) c1 A2 c2 A3 c3 xs) {k : Nat} {x : Sl} (hx : xs[k]? = some x) (v : Int) : RT (w.setCell ⟨g1, k, none⟩ (.int .i64 v)) B n (some ⟨g1, 0, none⟩) c1 A2 c2 A3 c3 (xs.set k ⟨v, x.f1, x.f2⟩) := by
  have hl := R.len
  have o1 := Kd.own_of_R R.r1
  have o2 := Kd.own_of_R R.r2
  have l1 : (gens xs).length = n := by simpa using hl
  rw [l1] at o1
  obtain ⟨s1, s2⟩ := o1.stored k (.int .i64 v)
  have C : Chg (fun b => b = g1) w (w.setCell ⟨g1, k, none⟩ (.int .i64 v)) := (Chg.refl (fun b => b = g1) w).setCell ⟨g1, k, none⟩ _ rfl
  refine ⟨Nat.le_trans R.sz C.size, by simpa using hl, Kd.R_of_own ?_ (fun _ h => h), ?_, ?_, R.ne⟩
  · have e : YtgjlkplieoajlaaDoorW.PrintWords.encs (Value.int .i64) (gens (xs.set k ⟨v, x.f1, x.f2⟩)) = (YtgjlkplieoajlaaDoorW.PrintWords.encs (Value.int .i64) (gens xs)).set k (.int .i64 v) := by rw [gens_set]; simp [YtgjlkplieoajlaaDoorW.PrintWords.encs, List.map_set]
    rw [e, show (gens (xs.set k ⟨v, x.f1, x.f2⟩)).length = n by simpa using hl]
    exact s1
  · rw [tks_keep hx ⟨v, x.f1, x.f2⟩ rfl]
    refine Kd.R_step R.r2 (fun b hb hlt => C.block b hlt (fun e => ?_))
    have e' : b = g1 := e
    subst e'
    rcases own_ne_types o1 o2 (by decide) with h | h
    · rw [h] at hb; cases hb
    · exact h hb
  · rw [ths_set, show (ths xs).set k x.f2 = ths xs from set_self (by simp [hx])]
    refine Kd.R_step R.r3 (fun b hb hlt => C.block b hlt (fun e => ?_))
    have e' : b = g1 := e
    subst e'
    exact R.ne b rfl hb
theorem RT.set3 {g3 : Nat} (R : RT w B n A1 c1 A2 c2 (some ⟨g3, 0, none⟩) c3 xs) {k : Nat} {x : Sl} (hx : xs[k]? = some x) (v : Int) : RT (w.setCell ⟨g3, k, none⟩ (.int .i64 v)) B n A1 c1 A2 c2 (some ⟨g3, 0, none⟩) c3 (xs.set k ⟨x.f0, x.f1, v⟩) := by
  have hl := R.len
  have o1 := Kd.own_of_R R.r3
  have o2 := Kd.own_of_R R.r2
  have l1 : (ths xs).length = n := by simpa using hl
  rw [l1] at o1
  obtain ⟨s1, s2⟩ := o1.stored k (.int .i64 v)
  have C : Chg (fun b => b = g3) w (w.setCell ⟨g3, k, none⟩ (.int .i64 v)) := (Chg.refl (fun b => b = g3) w).setCell ⟨g3, k, none⟩ _ rfl
  refine ⟨Nat.le_trans R.sz C.size, by simpa using hl, ?_, ?_, Kd.R_of_own ?_ (fun _ h => h), R.ne⟩
  · rw [gens_keep hx ⟨x.f0, x.f1, v⟩ rfl]
    refine Kd.R_step R.r1 (fun b hb hlt => C.block b hlt (fun e => ?_))
    have e' : b = g3 := e
    subst e'
    exact R.ne b hb rfl
  · rw [tks_keep hx ⟨x.f0, x.f1, v⟩ rfl]
    refine Kd.R_step R.r2 (fun b hb hlt => C.block b hlt (fun e => ?_))
    have e' : b = g3 := e
    subst e'
    rcases own_ne_types o1 o2 (by decide) with h | h
    · rw [h] at hb; cases hb
    · exact h hb
  · have e : YtgjlkplieoajlaaDoorW.PrintWords.encs (Value.int .i64) (ths (xs.set k ⟨x.f0, x.f1, v⟩)) = (YtgjlkplieoajlaaDoorW.PrintWords.encs (Value.int .i64) (ths xs)).set k (.int .i64 v) := by rw [ths_set]; simp [YtgjlkplieoajlaaDoorW.PrintWords.encs, List.map_set]
    rw [e, show (ths (xs.set k ⟨x.f0, x.f1, v⟩)).length = n by simpa using hl]
    exact s1
theorem RT.set2 {g2 : Nat} (R : RT w B n A1 c1 (some ⟨g2, 0, none⟩) c2 A3 c3 xs) {k : Nat} {x : Sl} (hx : xs[k]? = some x) (v : Bool) : RT (w.setCell ⟨g2, k, none⟩ (.bool v)) B n A1 c1 (some ⟨g2, 0, none⟩) c2 A3 c3 (xs.set k ⟨x.f0, v, x.f2⟩) := by
  have hl := R.len
  have o1 := Kd.own_of_R R.r2
  have o2 := Kd.own_of_R R.r1
  have o3 := Kd.own_of_R R.r3
  have l1 : (tks xs).length = n := by simpa using hl
  rw [l1] at o1
  obtain ⟨s1, s2⟩ := o1.stored k (.bool v)
  have C : Chg (fun b => b = g2) w (w.setCell ⟨g2, k, none⟩ (.bool v)) := (Chg.refl (fun b => b = g2) w).setCell ⟨g2, k, none⟩ _ rfl
  refine ⟨Nat.le_trans R.sz C.size, by simpa using hl, ?_, Kd.R_of_own ?_ (fun _ h => h), ?_, R.ne⟩
  · rw [gens_keep hx ⟨x.f0, v, x.f2⟩ rfl]
    refine Kd.R_step R.r1 (fun b hb hlt => C.block b hlt (fun e => ?_))
    have e' : b = g2 := e
    subst e'
    rcases own_ne_types o1 o2 (by decide) with h | h
    · rw [h] at hb; cases hb
    · exact h hb
  · have e : YtgjlkplieoajlaaDoorW.PrintWords.encs Value.bool (tks (xs.set k ⟨x.f0, v, x.f2⟩)) = (YtgjlkplieoajlaaDoorW.PrintWords.encs Value.bool (tks xs)).set k (.bool v) := by rw [tks_set]; simp [YtgjlkplieoajlaaDoorW.PrintWords.encs, List.map_set]
    rw [e, show (tks (xs.set k ⟨x.f0, v, x.f2⟩)).length = n by simpa using hl]
    exact s1
  · rw [ths_set, show (ths xs).set k x.f2 = ths xs from set_self (by simp [hx])]
    refine Kd.R_step R.r3 (fun b hb hlt => C.block b hlt (fun e => ?_))
    have e' : b = g2 := e
    subst e'
    rcases own_ne_types o1 o3 (by decide) with h | h
    · rw [h] at hb; cases hb
    · exact h hb
end
end Go.Proofs.YtgjlkplieoajlaaDoor
