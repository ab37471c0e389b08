/- slots.Load, by contract. -/
import Derived.Test.YtgjlkplieoajlaaDoorSn1
set_option linter.unusedVariables false
set_option linter.unusedSimpArgs false
namespace Go.Proofs.YtgjlkplieoajlaaDoor
open Go.RowKit
open Go.Proofs.YtgjlkplieoajlaaDoorW.PrintWords (Kd Drawn0 Kept rd rdOf)
open Go.Proofs.YtgjlkplieoajlaaDoor.PSlotsTwins
set_option maxRecDepth 100000

theorem merge {P Q : Prop} (main : Hid P → Q) (side : P) : Q := main (Lib.hid side)
theorem cell_int {w : World} {A : Option Addr} {n : Nat} {xs : List Int} (h : (Kd.int .i64).C w A n xs) {k : Nat} (hk : k < n) : ∃ ad, A = some ad ∧ w.cell? (ad.add k) = some (.int .i64 (xs.getD k 0)) := by
  obtain ⟨ad, e, hc⟩ := Kd.at_int h (k : Int) (by omega) (by omega)
  exact ⟨ad, e, hc⟩
theorem cell_bool {w : World} {A : Option Addr} {n : Nat} {xs : List Bool} (h : Kd.bool.C w A n xs) {k : Nat} (hk : k < n) : ∃ ad, A = some ad ∧ w.cell? (ad.add k) = some (.bool (xs.getD k false)) := by
  obtain ⟨ad, e, hc⟩ := Kd.at_bool h (k : Int) (by omega) (by omega)
  exact ⟨ad, e, hc⟩

theorem C_none {w : World} {A : Option Addr} {xs : List Int} (h : xs.length = 0) : (Kd.int .i64).C w A 0 xs := ⟨h, by simp, fun h => absurd h (Nat.lt_irrefl 0)⟩

/-- The three rows that are handed to Load. -/
structure LdA (w : World) (A1 : Option Addr) (n c1 : Nat) (A2 : Option Addr) (m c2 : Nat) (A3 : Option Addr) (p c3 : Nat) (gs : List Int) (ts : List Bool) (hs : List Int) : Prop where
  a1 : (Kd.int .i64).C w A1 n gs
  l1 : n ≤ c1
  a2 : Kd.bool.C w A2 m ts
  l2 : m ≤ c2
  a3 : (Kd.int .i64).C w A3 p hs
  l3 : p ≤ c3
theorem LdA.below {w w' : World} {A1 : Option Addr} {n c1 : Nat} {A2 : Option Addr} {m c2 : Nat} {A3 : Option Addr} {p c3 : Nat} {gs : List Int} {ts : List Bool} {hs : List Int} (h : LdA w A1 n c1 A2 m c2 A3 p c3 gs ts hs) (hb : Below w.heap.size w w') : LdA w' A1 n c1 A2 m c2 A3 p c3 gs ts hs :=
  ⟨Kd.C_below h.a1 hb, h.l1, Kd.C_below h.a2 hb, h.l2, Kd.C_below h.a3 hb, h.l3⟩

section
variable {w : World} {A1 : Option Addr} {n c1 : Nat} {A2 : Option Addr} {m c2 : Nat} {A3 : Option Addr} {p c3 : Nat} {gs : List Int} {ts : List Bool} {hs : List Int}

theorem sload_arg (kind : Int) (h : ¬ (1 ≤ kind ∧ kind ≤ 3 ∧ 1 ≤ (n : Int) ∧ (n : Int) ≤ 4096)) :
    Calls Tryd.prog 20 #[.int .i64 kind, .slice A1 n c1, .slice A2 m c2, .slice A3 p c3] w fun e w' => e = .returned (.tuple #[.pointer none, .iface 85 (.int .i64 1)]) ∧ Below w.heap.size w w' := by
  have HN := Lib.hid (snew_bad kind n w h)
  clear h
  go_enter Tryd.func20, Tryd.ntmps20
  go_wp2_with fail
  refine HN.out.mono ?_
  rintro e w1 ⟨rfl, d, hw⟩
  have HB := Lib.hid (show Below w.heap.size w w1 by rw [hw]; exact below_drewN' (Below.refl _ w) d)
  clear hw
  go_wp2
  go_ret2
  exact ⟨rfl, HB.out⟩

theorem sload_len (kind : Int) (k0 : 1 ≤ kind) (k3 : kind ≤ 3) (n0 : 1 ≤ n) (n1 : n ≤ 4096) (hne : m ≠ n) :
    Calls Tryd.prog 20 #[.int .i64 kind, .slice A1 n c1, .slice A2 m c2, .slice A3 p c3] w fun e w' => e = .returned (.tuple #[.pointer none, .iface 85 (.int .i64 270)]) ∧ Below w.heap.size w w' := by
  have t1 : ((m : Int) == (n : Int)) = false := by simp; omega
  have t2 : (m == n) = false := by simp; omega
  clear hne
  go_enter Tryd.func20, Tryd.ntmps20
  go_wp2_with fail
  refine (snew_ok kind n w k0 k3 n0 n1).mono ?_
  rintro e w1 ⟨t, g, cap, rfl, hT, ht, hg, hb⟩
  have HB := Lib.hid hb
  clear hT hb
  go_wp2
  go_ret2
  exact ⟨rfl, HB.out⟩

/-- What Load leaves where a table may be. -/
def LoadPost (w : World) (kind : Int) (n p : Nat) (gs : List Int) (ts : List Bool) (hs : List Int) (e : Ending) (w' : World) : Prop :=
  ((∀ i, i < n → okSl gs ts hs i) ∧ cntT ts n = p ∧ ∃ t g cap, e = .returned (.tuple #[.pointer (some ⟨t, 0, none⟩), .nilIface]) ∧ TB w' t g n cap kind (loadSl gs ts hs n n) ∧ w.heap.size ≤ t ∧ w.heap.size ≤ g ∧ Below w.heap.size w w') ∨
  (¬ ((∀ i, i < n → okSl gs ts hs i) ∧ cntT ts n = p) ∧ e = .returned (.tuple #[.pointer none, .iface 85 (.int .i64 270)]) ∧ Below w.heap.size w w')

set_option maxHeartbeats 2000000 in
theorem sload_any (kind : Int) (k0 : 1 ≤ kind) (k3 : kind ≤ 3) (n0 : 1 ≤ n) (n1 : n ≤ 4096) (HA : LdA w A1 n c1 A2 n c2 A3 p c3 gs ts hs) :
    Calls Tryd.prog 20 #[.int .i64 kind, .slice A1 n c1, .slice A2 n c2, .slice A3 p c3] w (LoadPost w kind n p gs ts hs) := by
  have LA := Lib.hid HA
  have hp := HA.l3
  clear HA
  go_enter Tryd.func20, Tryd.ntmps20
  go_wp2_with fail
  refine (snew_ok kind n w k0 k3 n0 n1).mono ?_
  rintro e w1 ⟨t, g, cap, rfl, hT, ht, hg, hb⟩
  have HT : Hid (TB w1 t g n cap kind (loadSl gs ts hs 0 n)) := Lib.hid (by rw [loadSl_start]; exact hT)
  have HB := Lib.hid hb
  have hpos : 0 < cntT ts 0 ∨ cntT ts 0 = 0 := by omega
  clear hT hb hpos
  go_wp2
  go_loopw [3, 33] (fun v i wr => ∃ k : Nat, k ≤ n ∧ i = .int .i64 k ∧ Hid (∀ i, i < k → okSl gs ts hs i) ∧ ∃ Ax q cx, v = .slice Ax q cx ∧ q ≤ cx ∧ q ≤ p ∧ Hid (q + cntT ts k = p) ∧ Hid ((Kd.int .i64).C w Ax q (hs.drop (cntT ts k))) ∧ Hid (TB wr t g n cap kind (loadSl gs ts hs k n)) ∧ Hid (Below w.heap.size w wr)) (fun _ i _ => n - (intOf i).toNat)
  case atStart => exact ⟨0, Nat.zero_le _, rfl, Lib.hid (fun i h => absurd h (Nat.not_lt_zero i)), A3, p, c3, rfl, hp, Nat.le_refl _, Lib.hid (by rw [cntT_zero]; rfl), Lib.hid (by rw [cntT_zero]; exact LA.out.a3), HT, HB⟩
  case round =>
    clear HT HB
    obtain ⟨k, hk, rfl, hO, Ax, q, cx, rfl, hqc, hqp, hQ, hC, hT, hB⟩ := hrel
    by_cases hlt : k < n
    · have hA := LA.out.below hB.out
      obtain ⟨ad1, rfl, x1⟩ := cell_int hA.a1 hlt
      obtain ⟨ad2, rfl, x2⟩ := cell_bool hA.a2 hlt
      have HNX := Lib.hid (fun (h : okSl gs ts hs k) => show ∀ i, i < k + 1 → okSl gs ts hs i from fun i hi => (Nat.lt_or_ge i k).elim (hO.out i) (fun h2 => (show k = i from by omega) ▸ h))
      have HKO := Lib.hid (show okSl gs ts hs k ↔ (1 ≤ gs.getD k 0 ∧ gs.getD k 0 ≤ (if ts.getD k false = true then 1023 else 1024) ∧ (ts.getD k false = true → cntT ts k < hs.length)) from Iff.rfl)
      have HX := Lib.hid (loadSl_at (gs := gs) (ts := ts) (hs := hs) (k := k) hlt)
      have hTb : ts[k]? = some (ts.getD k false) := by
        have := hA.a2.1
        rw [List.getD_eq_getElem?_getD, List.getElem?_eq_getElem (by omega)]; rfl
      have HCS := Lib.hid (cntT_succ hTb)
      have HLS := Lib.hid (show laidSl gs ts hs k = ⟨gs.getD k 0, ts.getD k false, if ts.getD k false = true then hs.getD (cntT ts k) 0 else 0⟩ from rfl)
      have x2f : ∀ W, Below w.heap.size w W → W.cell? (ad2.add k) = some (.bool (ts.getD k false)) := fun W h => by
        have c := cell_bool (Kd.C_below LA.out.a2 h) hlt
        obtain ⟨ad, e, c⟩ := c
        obtain rfl : ad2 = ad := Option.some.inj e
        exact c
      clear hA hTb
      generalize gs.getD k 0 = gk at x1 HKO HLS
      generalize ts.getD k false = tk at x2 HKO HCS HLS x2f
      have HX2 := Lib.hid (show (loadSl gs ts hs k n)[k]? = some oneSl by rw [HX.out, if_neg (by omega)])
      have c1' := hT.out.c1
      have e0 := hT.out.e0 HX2.out
      have e1 := hT.out.e1 HX2.out
      have e2 := hT.out.e2 HX2.out
      have f0 := hT.out.f0 HX2.out
      have f1 := hT.out.f1 HX2.out
      have f2 := hT.out.f2 HX2.out
      clear HX
      have HLD := Lib.hid (loadSl_set (gs := gs) (ts := ts) (hs := hs) hlt)
      rw [HLS.out] at HLD
      have tail : True := trivial
      by_cases hko : okSl gs ts hs k
      · have HNX2 := Lib.hid (HNX.out hko)
        obtain ⟨o1, o2, o3⟩ := HKO.out.1 hko
        clear hko
        cases tk with
        | false =>
          have o2' : gk ≤ 1024 := by simpa using o2
          have t1 : decide (gk < 1) = false := decide_eq_false (by omega)
          have t2 : decide (1024 < gk) = false := decide_eq_false (by omega)
          have HM := Lib.hid (show TB (((wr.setCell ⟨g, k * 3, none⟩ (.int .i64 gk)).setCell ⟨g, k * 3 + 1, none⟩ (.bool false)).drew) t g n cap kind ((loadSl gs ts hs k n).set k ⟨gk, false, 0⟩) by
            have h1 := hT.out.set HX2.out 0 (.int .i64 gk) ⟨gk, false, 0⟩ (by omega) rfl
            have h2 := h1.set (i := k) (x := ⟨gk, false, 0⟩) (List.getElem?_set_self (by rw [loadSl_len]; exact hlt)) 1 (.bool false) ⟨gk, false, 0⟩ (by omega) rfl
            rw [List.set_set] at h2
            exact h2.drew)
          have HB2 := Lib.hid (show Below w.heap.size w (((wr.setCell ⟨g, k * 3, none⟩ (.int .i64 gk)).setCell ⟨g, k * 3 + 1, none⟩ (.bool false)).drew) from ((hB.out.setCell (p := ⟨g, k * 3, none⟩) hg (.int .i64 gk)).setCell (p := ⟨g, k * 3 + 1, none⟩) hg (.bool false)).drew)
          have X2 := Lib.hid (show (((wr.setCell ⟨g, k * 3, none⟩ (.int .i64 gk)).setCell ⟨g, k * 3 + 1, none⟩ (.bool false)).drew).cell? (ad2.add k) = some (.bool false) from x2f _ HB2.out)
          have x2s : ((wr.setCell ⟨g, k * 3, none⟩ (.int .i64 gk)).setCell ⟨g, k * 3 + 1, none⟩ (.bool false)).cell? (ad2.add k) = some (.bool false) := X2.out
          clear o2 o3 o1 o2' x2f tail X2
          go_wp2_with fail
          apply merge
          · intro H
            go_region_with (fail)
            all_goals exact H.out
          go_wp2
          go_roundw
          case rel => exact ⟨k + 1, by omega, by go_num, HNX2, Ax, q, cx, rfl, hqc, hqp, Lib.hid (by rw [HCS.out]; simpa using hQ.out), Lib.hid (by rw [HCS.out]; simpa using hC.out), Lib.hid (by rw [← HLD.out]; exact HM.out), HB2⟩
          case measure => simp [intOf]; omega
        | true =>
          have o2' : gk ≤ 1023 := by simpa using o2
          have o3' : cntT ts k < hs.length := o3 rfl
          have hlen : hs.length = p := LA.out.a3.1
          have hq0 : 0 < q := by have := hQ.out; omega
          have t1 : decide (gk < 1) = false := decide_eq_false (by omega)
          have t2 : decide (1023 < gk) = false := decide_eq_false (by omega)
          have t3 : ((q : Int) == 0) = false := by simp; omega
          have t4 : (q == 0) = false := by simp; omega
          have HM := Lib.hid (show TB (((wr.setCell ⟨g, k * 3, none⟩ (.int .i64 gk)).setCell ⟨g, k * 3 + 1, none⟩ (.bool true)).drew) t g n cap kind ((loadSl gs ts hs k n).set k ⟨gk, true, 0⟩) by
            have h1 := hT.out.set HX2.out 0 (.int .i64 gk) ⟨gk, false, 0⟩ (by omega) rfl
            have h2 := h1.set (i := k) (x := ⟨gk, false, 0⟩) (List.getElem?_set_self (by rw [loadSl_len]; exact hlt)) 1 (.bool true) ⟨gk, true, 0⟩ (by omega) rfl
            rw [List.set_set] at h2
            exact h2.drew)
          have HB2 := Lib.hid (show Below w.heap.size w (((wr.setCell ⟨g, k * 3, none⟩ (.int .i64 gk)).setCell ⟨g, k * 3 + 1, none⟩ (.bool true)).drew) from ((hB.out.setCell (p := ⟨g, k * 3, none⟩) hg (.int .i64 gk)).setCell (p := ⟨g, k * 3 + 1, none⟩) hg (.bool true)).drew)
          have X2 := Lib.hid (show (((wr.setCell ⟨g, k * 3, none⟩ (.int .i64 gk)).setCell ⟨g, k * 3 + 1, none⟩ (.bool true)).drew).cell? (ad2.add k) = some (.bool true) from x2f _ HB2.out)
          obtain ⟨ad3, rfl, x3⟩ := cell_int (Kd.C_below hC.out HB2.out) hq0
          rw [Addr.add_zero'] at x3
          have HA3 := Lib.hid (show (hs.drop (cntT ts k)).getD 0 0 = hs.getD (cntT ts k) 0 by simp [List.getD])
          generalize (hs.drop (cntT ts k)).getD 0 0 = a3 at x3 HA3
          have X3 := Lib.hid x3
          have x2s : ((wr.setCell ⟨g, k * 3, none⟩ (.int .i64 gk)).setCell ⟨g, k * 3 + 1, none⟩ (.bool true)).cell? (ad2.add k) = some (.bool true) := X2.out
          clear o2 o3 o1 o2' o3' hlen x2f tail x3 X2
          go_wp2_with fail
          apply merge
          · intro H
            go_region_with (fail)
            all_goals exact H.out
          go_wp2_with fail
          generalize ((wr.setCell ⟨g, k * 3, none⟩ (.int .i64 gk)).setCell ⟨g, k * 3 + 1, none⟩ (.bool true)).drew = W5 at HM HB2 X3 ⊢
          have x3 := X3.out
          have HX5 := Lib.hid (show ((loadSl gs ts hs k n).set k ⟨gk, true, 0⟩)[k]? = some ⟨gk, true, 0⟩ from List.getElem?_set_self (by rw [loadSl_len]; exact hlt))
          have c5 := HM.out.c1
          have e5 := HM.out.e2 HX5.out
          have f5 := HM.out.f2 HX5.out
          have HM5 := Lib.hid (show TB ((W5.drew).setCell ⟨g, k * 3 + 2, none⟩ (.int .i64 a3)) t g n cap kind (loadSl gs ts hs (k + 1) n) by
            have h3 := HM.out.drew.set HX5.out 2 (.int .i64 a3) ⟨gk, true, a3⟩ (by omega) rfl
            rw [List.set_set] at h3
            rw [← HLD.out, ← HA3.out]
            exact h3)
          have HB5 := Lib.hid (HB2.out.drew.setCell (p := ⟨g, k * 3 + 2, none⟩) hg (.int .i64 a3))
          clear X3 x2s
          by_cases hcx : cx = 1
          · subst hcx
            obtain rfl : q = 1 := by omega
            apply merge
            · intro H
              go_region_with (fail)
              all_goals exact H.out
            go_wp2
            go_roundw
            case rel => exact ⟨k + 1, by omega, by go_num, HNX2, some ad3, 0, 0, rfl, Nat.le_refl _, Nat.zero_le _, Lib.hid (by have := hQ.out; rw [HCS.out, if_pos trivial]; omega), Lib.hid (C_none (by rw [HCS.out, if_pos trivial]; have := hQ.out; have := LA.out.a3.1; simp; omega)), HM5, HB5⟩
            case measure => simp [intOf]; omega
          · have hq1 : (1 : Int) ≤ (q : Int) := by omega
            have hq2 : 1 ≤ q := by omega
            have HC1 := Lib.hid (show (Kd.int .i64).C w (some (ad3.add 1)) (q - 1) (hs.drop (cntT ts (k + 1))) by
              have hl : (hs.drop (cntT ts k)).length = q := hC.out.1
              have h0 := hC.out
              rw [← hl] at h0
              have h1 := Kd.C_drop (m := 1) (c := cx) h0 (by omega) (by omega)
              rw [if_neg hcx, List.drop_drop] at h1
              rw [HCS.out, if_pos trivial]
              have e : (hs.drop (cntT ts k + 1)).length = q - 1 := by simp at hl ⊢; omega
              rw [e] at h1
              exact h1)
            apply merge
            · intro H
              go_region_with (fail)
              all_goals exact H.out
            go_wp2
            go_roundw
            case rel => exact ⟨k + 1, by omega, by go_num, HNX2, some (ad3.add 1), q - 1, cx - 1, rfl, by omega, by omega, Lib.hid (by have := hQ.out; rw [HCS.out, if_pos trivial]; omega), HC1, HM5, HB5⟩
            case measure => simp [intOf]; omega
      · have HBad := Lib.hid (show ¬ ((∀ i, i < n → okSl gs ts hs i) ∧ cntT ts n = p) from fun h => hko (h.1 k hlt))
        have htest : decide (gk < 1) = true ∨ (decide (gk < 1) = false ∧ ((tk = false ∧ decide (1024 < gk) = true) ∨ (tk = true ∧ decide (1023 < gk) = true) ∨ (tk = true ∧ decide (1023 < gk) = false ∧ q = 0))) := by
          rcases Int.lt_or_le gk 1 with h1 | h1
          · exact .inl (decide_eq_true h1)
          · refine .inr ⟨decide_eq_false (by omega), ?_⟩
            cases tk with
            | false =>
              refine .inl ⟨rfl, decide_eq_true ?_⟩
              rcases Int.lt_or_le 1024 gk with h2 | h2
              · exact h2
              · exact absurd (HKO.out.2 ⟨h1, by simpa using h2, fun h => by simp at h⟩) hko
            | true =>
              rcases Int.lt_or_le 1023 gk with h2 | h2
              · exact .inr (.inl ⟨rfl, decide_eq_true h2⟩)
              · refine .inr (.inr ⟨rfl, decide_eq_false (by omega), ?_⟩)
                rcases Nat.lt_or_ge (cntT ts k) hs.length with h3 | h3
                · exact absurd (HKO.out.2 ⟨h1, by simpa using h2, fun _ => h3⟩) hko
                · have := hQ.out; have := LA.out.a3.1; omega
        clear hko x2f tail
        rcases htest with u1 | ⟨u1, ⟨rfl, u2⟩ | ⟨rfl, u2⟩ | ⟨rfl, u2, rfl⟩⟩
        · cases tk
          all_goals
            go_wp2
            go_ret2
            exact .inr ⟨HBad.out, rfl, hB.out⟩
        all_goals
          go_wp2
          go_ret2
          exact .inr ⟨HBad.out, rfl, hB.out⟩
    · obtain rfl : k = n := by omega
      by_cases hq0 : q = 0
      · subst hq0
        go_wp2
        go_ret2
        exact .inl ⟨hO.out, by have := hQ.out; omega, t, g, cap, rfl, hT.out, ht, hg, hB.out⟩
      · have u1 : decide (0 < q) = true := decide_eq_true (by omega)
        have u2 : decide ((0 : Int) < q) = true := decide_eq_true (by omega)
        have HBad := Lib.hid (show ¬ ((∀ i, i < k → okSl gs ts hs i) ∧ cntT ts k = p) from fun h => by have := hQ.out; omega)
        clear hq0
        go_wp2
        go_ret2
        exact .inr ⟨HBad.out, rfl, hB.out⟩
end
end Go.Proofs.YtgjlkplieoajlaaDoor
