/- Of the text TR5 only what this claim needs (shake.py, this repo's). -/
import Derived.Test.YtgjlkplieoajlaaZTR4
set_option linter.unusedVariables false
set_option linter.unusedSimpArgs false
namespace Go.Proofs.Ytgjlkplieoajlaa
open Go.RowKit
open Go.Proofs.YtgjlkplieoajlaaW.PrintWords (Kd Drawn0 Kept rd rdOf)
open Go.Proofs.Ytgjlkplieoajlaa.PTreeWhole
set_option maxRecDepth 100000

theorem tadd_hit {xs : List Nk} {dep : Nat → Nat} (hI : TI xs dep) (q t g cap j i : Nat) (z : Int) (y x : Nk) (w : World) (H : TRE w q t g cap xs) (ha : NAt 1 z xs j y) (hd : dep j ≤ 7) (hx : xs[i]? = some x) (hf : FreeNk x) (hfr : ∀ (j : Nat) (y : Nk), j < i → xs[j]? = some y → ¬ FreeNk y) :
    Calls Try.prog 7 #[.pointer (some ⟨q, 0, none⟩), .int .i64 z] w fun e w' => e = .returned (.tuple #[.int .i64 (mk 1 i x.f0), .nilIface]) ∧ TRE w' q t g cap (xs.set i ⟨x.f0, true, z⟩) ∧ Chg (fun k => k = g) w w' := by
  have HD := Lib.hid (tdepth_ok hI q t g cap j z y w H ha)
  have HH := Lib.hid H
  have HI := Lib.hid hI
  have HX := Lib.hid hx
  have HF := Lib.hid hf
  have HFR := Lib.hid hfr
  obtain ⟨d, hde⟩ : ∃ d, d = dep j := ⟨_, rfl⟩
  rw [← hde] at HD hd
  have k1 : ((d : Int) == 8) = false := by rw [beq_eq_false_iff_ne]; omega
  have k1' : decide ((d : Int) = 8) = false := decide_eq_false (by omega)
  have k1'' : decide (d = 8) = false := decide_eq_false (by omega)
  clear H ha hI hde hx hf hfr
  go_enter Try.func7, Try.ntmps7
  go_wp2_with fail
  refine HD.out.mono ?_
  rintro e w1 ⟨rfl, hb⟩
  have H1 := HH.out.below hb
  have c0 := H1.c0
  have HH1 := Lib.hid H1
  have HB := Lib.hid hb
  clear hb H1
  go_wp2_with fail
  refine (nadd_hit t g 64 cap i 1 z xs x _ HH1.out.nt HI.out.nm HX.out HF.out HFR.out).mono ?_
  rintro e w2 ⟨rfl, hT2, hc2⟩
  have HT2 := Lib.hid hT2
  have HC2 := Lib.hid hc2
  clear hT2 hc2
  go_wp2
  go_ret2
  exact ⟨rfl, HH1.out.put HC2.out HT2.out, (Chg.ofBelow HB.out _).trans HC2.out⟩

/-- A row of handles as it reads. -/
def RD (W : World) (v : Value) (l : List Int) : Prop := (v = .slice none 0 0 ∧ l = []) ∨ ∃ g cap, v = .slice (some ⟨g, 0, none⟩) l.length cap ∧ ∀ (i : Nat) (x : Int), l[i]? = some x → W.cell? ⟨g, i, none⟩ = some (.int .i64 x)
theorem RH.rd {W : World} {b : Nat} {v : Value} {l : List Int} (h : RH W b v l) : RD W v l := by
  rcases rowH_form h with h | ⟨g, cap, cur, e, -, -, hc⟩
  · exact .inl h
  · exact .inr ⟨g, cap, e, hc⟩
theorem RD.slice {W : World} {v : Value} {l : List Int} (h : RD W v l) : ∃ A c, v = .slice A l.length c := by
  rcases h with ⟨e, rfl⟩ | ⟨g, cap, e, -⟩
  · exact ⟨none, 0, e⟩
  · exact ⟨_, cap, e⟩
theorem RD.at {W : World} {A : Option Addr} {n c : Nat} {l : List Int} (h : RD W (.slice A n c) l) {i : Nat} {x : Int} (hx : l[i]? = some x) : ∃ g, A = some ⟨g, 0, none⟩ ∧ W.cell? ⟨g, i, none⟩ = some (.int .i64 x) := by
  rcases h with ⟨e, rfl⟩ | ⟨g, cap, e, hc⟩
  · simp at hx
  · injection e with e1 e2 e3
    exact ⟨g, e1, hc i x hx⟩
theorem RD.below {W W' : World} {v : Value} {l : List Int} (h : RD W v l) (hb : Below W.heap.size W W') : RD W' v l := by
  rcases h with h | ⟨g, cap, e, hc⟩
  · exact .inl h
  · exact .inr ⟨g, cap, e, fun i x hx => keep hb (hc i x hx)⟩
set_option maxHeartbeats 1000000 in
/-- Two rows that read alike. -/
theorem same_yes (v u : Value) (l : List Int) (w : World) (h1 : RD w v l) (h2 : RD w u l) (hl : l.length ≤ 1000000) :
    Calls Try.prog 11 #[v, u] w fun e w' => e = .returned (.bool true) ∧ Below w.heap.size w w' := by
  obtain ⟨A, c, rfl⟩ := h1.slice
  obtain ⟨B, d, rfl⟩ := h2.slice
  obtain ⟨n, hn⟩ : ∃ n, n = l.length := ⟨_, rfl⟩
  rw [← hn] at h1 h2 hl ⊢
  have H1 := Lib.hid h1
  have H2 := Lib.hid h2
  have HN := Lib.hid hn
  clear h1 h2 hn
  go_enter Try.func11, Try.ntmps11
  go_wp2_with fail
  go_loopw [5] (fun i wr => ∃ k : Nat, k ≤ n ∧ i = .int .i64 k ∧ Hid (Below w.heap.size w wr)) (fun i _ => n - (intOf i).toNat)
  case atStart => exact ⟨0, Nat.zero_le _, rfl, Lib.hid (Below.refl _ _)⟩
  case round =>
    obtain ⟨k, hk, rfl, hB⟩ := hrel
    by_cases hlt : k < n
    · obtain ⟨x, hx⟩ : ∃ x, l[k]? = some x := ⟨_, List.getElem?_eq_getElem (by have := HN.out; omega)⟩
      obtain ⟨g1, rfl, c1⟩ := H1.out.at hx
      obtain ⟨g2, rfl, c2⟩ := H2.out.at hx
      have c1' := keep hB.out c1
      have c2' := keep hB.out c2
      clear hx c1 c2
      go_wp2_with fail
      go_quiet (fail)
      go_wp2_with fail
      go_roundw
      case rel => exact ⟨k + 1, by omega, by go_num, Lib.hid (below_drewN' hB.out _)⟩
      case measure => simp [intOf]; omega
    · go_wp2
      go_ret
      exact ⟨rfl, hB.out⟩

abbrev xsT1 : List Nk := xsT0.set 1 ⟨1, true, rootH⟩
theorem xsT1_at : NAt 1 (mk 1 ((1 : Nat) : Int) 1) xsT1 1 ⟨1, true, rootH⟩ := ⟨rfl, rfl, rfl⟩
theorem xsT1_len : (walkF xsT1 8 rootH).length = 2 := by decide
theorem free1 : ∀ (j : Nat) (y : Nk), j < 1 → xsT0[j]? = some y → ¬ FreeNk y := by
  intro j y hj hy hf
  obtain rfl : j = 0 := by omega
  have : y = ⟨1, true, 0⟩ := by
    have e : xsT0[0]? = some ⟨1, true, 0⟩ := rfl
    rw [e] at hy
    simpa using hy.symm
  subst this
  simp [FreeNk] at hf

set_option maxHeartbeats 2000000 in
theorem sure09_ok (w : World) : Calls Try.prog 12 #[] w fun e w' => e = .returned (.bool true) ∧ Below w.heap.size w w' := by
  obtain ⟨r, hr⟩ : ∃ r, r = rootH := ⟨_, rfl⟩
  obtain ⟨h1, hh1⟩ : ∃ y, y = mk 1 ((1 : Nat) : Int) 1 := ⟨_, rfl⟩
  have k1 : (r == 1099511627777) = true := by rw [hr]; decide
  have k1' : decide (r = 1099511627777) = true := by rw [hr]; decide
  have k2 : (h1 == 1099512676353) = true := by rw [hh1]; decide
  have k2' : decide (h1 = 1099512676353) = true := by rw [hh1]; decide
  have HR := Lib.hid hr
  have HH1 := Lib.hid hh1
  clear hr hh1
  go_enter Try.func12, Try.ntmps12
  go_wp2_with fail
  refine (tnew_ok _).mono ?_
  rintro e w1 ⟨q, t, g, cap, rfl, hT, hg, hb⟩
  have HT := Lib.hid hT
  have HB := Lib.hid hb
  have HG := Lib.hid hg
  clear hT hg hb
  go_wp2_with fail
  refine (troot_ok q t g cap xsT0 _ HT.out).mono ?_
  rintro e w_ ⟨rfl, rfl⟩
  rw [← HR.out]
  go_wp2_with fail
  refine (tadd_hit TI.start q t g cap 0 1 r ⟨1, true, 0⟩ oneNk _ HT.out (by rw [HR.out]; exact TI.start.rootAt) (Nat.zero_le _) rfl ⟨rfl, by decide⟩ free1).mono ?_
  rintro e w2 ⟨rfl, hT2, hc2⟩
  rw [show mk 1 ((1 : Nat) : Int) oneNk.f0 = h1 from HH1.out.symm]
  have HT2 : Hid (TRE w2 q t g cap xsT1) := Lib.hid (by have := hT2; rw [HR.out] at this; exact this)
  have HB2 := Lib.hid (HB.out.trans (hc2.below HB.out.size (fun k e => by have := HG.out; omega)))
  have HI2 := Lib.hid (TI.start.add (i := 1) (x := oneNk) rfl ⟨rfl, by decide⟩ TI.start.rootAt (Nat.zero_le _))
  clear hT2 hc2
  go_wp2_with fail
  refine (tdepth_ok HI2.out q t g cap 1 h1 ⟨1, true, rootH⟩ _ HT2.out (by rw [HH1.out]; exact xsT1_at)).mono ?_
  rintro e w3 ⟨rfl, hb3⟩
  rw [show ((if 1 = 1 then 0 + 1 else 0 : Nat) : Int) = 1 from rfl]
  have HT3 := Lib.hid (HT2.out.below hb3)
  have HB3 := Lib.hid (below_call HB2.out (Nat.le_refl _) hb3)
  clear hb3
  go_wp2_with fail
  refine (troot_ok q t g cap xsT1 _ HT3.out).mono ?_
  rintro e w_ ⟨rfl, rfl⟩
  rw [← HR.out]
  go_wp2_with fail
  refine (tall_any HI2.out q t g cap _ HT3.out).mono ?_
  rintro e w4 ⟨v, rfl, hR, hb4⟩
  obtain ⟨A, c, rfl⟩ := Kd.R_slice hR
  rw [show (walkF (xsT0.set 1 ⟨oneNk.f0, true, rootH⟩) 8 rootH).length = 2 from xsT1_len]
  have HB4 := Lib.hid (below_call HB3.out (Nat.le_refl _) hb4)
  clear hR hb4
  go_wp2
  go_ret
  exact ⟨rfl, HB4.out⟩

end Go.Proofs.Ytgjlkplieoajlaa
