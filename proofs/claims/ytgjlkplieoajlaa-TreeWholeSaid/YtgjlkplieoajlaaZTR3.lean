/- Of the text TR3 only what this claim needs (shake.py, this repo's). -/
import Derived.Test.YtgjlkplieoajlaaZTR2
set_option linter.unusedVariables false
set_option linter.unusedSimpArgs false
namespace Go.Proofs.Ytgjlkplieoajlaa
open Go.RowKit
open Go.Proofs.YtgjlkplieoajlaaW.PrintWords (Kd Drawn0 Kept rd rdOf)
open Go.Proofs.Ytgjlkplieoajlaa.PTreeWhole
set_option maxRecDepth 100000

set_option maxHeartbeats 2000000 in
theorem tpath_ok {xs : List Nk} {dep : Nat → Nat} (hI : TI xs dep) {z : Int} {l : List Int} (hp : PathIs xs z l) : ∀ (q t g cap : Nat) (w : World), TRE w q t g cap xs →
    Calls Try.prog 10 #[.pointer (some ⟨q, 0, none⟩), .int .i64 z] w fun e w' => ∃ v, e = .returned (.tuple #[v, .nilIface]) ∧ RH w' w.heap.size v l ∧ Below w.heap.size w w' := by
  induction hp with
  | root =>
    intro q t g cap w H
    have HS := Lib.hid (thas1 q t g cap rootH xs w H hI.nm 0 _ hI.rootAt)
    have HH := Lib.hid H
    clear H
    obtain ⟨r, hr⟩ : ∃ r, r = rootH := ⟨_, rfl⟩
    have c1 : ∀ W, Below w.heap.size w W → W.cell? ⟨q, 1, none⟩ = some (.int .i64 r) := fun W hB => by rw [hr]; exact (HH.out.below hB).c1
    rw [← hr] at HS ⊢
    have HC := Lib.hid c1
    clear c1 hr hI
    go_enter Try.func10, Try.ntmps10
    go_wp2_with fail
    refine HS.out.mono ?_
    rintro e w1 ⟨rfl, hb1⟩
    have c1 := HC.out w1 hb1
    have HR := Lib.hid (RH.new (W := w1) r hb1.size)
    have HB := Lib.hid (below_alloc hb1 (Nat.le_refl _) (.cells #[.int .i64 r] 27))
    clear hb1
    go_wp2
    go_ret2
    exact ⟨_, rfl, HR.out, HB.out⟩
  | @step h i x l ha hi hp ih =>
    intro q t g cap w H
    have hne := hI.notRoot ha hi
    have hle : l.length ≤ 9 := by
      obtain ⟨j, y, hb, -⟩ := hI.up i x hi ha.1 ha.2.1
      have := hI.path_len hb hp
      have := hI.le j y hb.1 hb.2.1
      omega
    have HS := Lib.hid (thas1 q t g cap h xs w H hI.nm i x ha)
    have HH := Lib.hid H
    have HG := Lib.hid (fun W (hB : Below w.heap.size w W) => nget_hit t g 64 cap i 1 h xs x W (H.below hB).nt hI.nm ha)
    have HP := Lib.hid (fun W (hB : Below w.heap.size w W) => ih q t g cap W (H.below hB))
    have k1 : (h == rootH) = false := by rw [beq_eq_false_iff_ne]; exact hne
    have k1' : decide (h = rootH) = false := decide_eq_false hne
    obtain ⟨r, hr⟩ : ∃ r, r = rootH := ⟨_, rfl⟩
    have c1 : ∀ W, Below w.heap.size w W → W.cell? ⟨q, 1, none⟩ = some (.int .i64 r) := fun W hB => by rw [hr]; exact (HH.out.below hB).c1
    have c0 : ∀ W, Below w.heap.size w W → W.cell? ⟨q, 0, none⟩ = some (.pointer (some ⟨t, 0, none⟩)) := fun W hB => (HH.out.below hB).c0
    rw [← hr] at k1 k1'
    have HC1 := Lib.hid c1
    have HC0 := Lib.hid c0
    clear c1 c0 H hne hr ih hI ha hi hp
    go_enter Try.func10, Try.ntmps10
    go_wp2_with fail
    refine HS.out.mono ?_
    rintro e w1 ⟨rfl, hb1⟩
    have c1 := HC1.out w1 hb1
    have c0 := HC0.out w1 hb1
    have HB1 := Lib.hid hb1
    clear hb1
    go_wp2_with fail
    refine (HG.out w1 HB1.out).mono ?_
    rintro e w2 ⟨rfl, hb2⟩
    have HB3 := Lib.hid (below_alloc (below_call HB1.out (Nat.le_refl _) hb2) (Nat.le_refl _) (.cells #[.int .i64 x.p] 50))
    have hk3 : (w2.alloc (.cells #[.int .i64 x.p] 50)).cell? ⟨w2.heap.size, 0, none⟩ = some (.int .i64 x.p) := cell_new _ _ _
    clear hb2 c0 c1
    go_wp2_with fail
    refine (HP.out _ HB3.out).mono ?_
    rintro e w4 ⟨v4, rfl, hR4, hb4⟩
    obtain ⟨A4, cp4, rfl⟩ := Kd.R_slice hR4
    have HR4 := Lib.hid (Kd.R_lower hR4 HB3.out.size)
    have HB4 := Lib.hid (below_call HB3.out (Nat.le_refl _) hb4)
    clear hR4 hb4 hk3
    go_wp2_with (first
      | (at_builtin; go_loud (refine Kd.R_append (Kd.int .i64) (w0 := w) w.heap.size rfl (.tmp 42) (.tmp 44) 25 27 (.int .i64 0) 8 rfl Try.underlying25 infoH rfl (by decide) (by omega) _ l h [.int .i64 h] (fun _ => True) (fun _ => False) rfl rfl rfl (fun _ hk => hk.elim) (fun _ _ => trivial) HR4.out HB4.out HB4.out.size (by omega) ?_); intro v5 w5 hR5 hB5 hg5 hat5)
      | fail)
    have HR5 := Lib.hid hR5
    have HB5 := Lib.hid hB5
    clear hR5 hB5 hg5 hat5
    go_wp2
    go_ret2
    exact ⟨_, rfl, HR5.out, HB5.out⟩

theorem tdepth_ok {xs : List Nk} {dep : Nat → Nat} (hI : TI xs dep) (q t g cap i : Nat) (z : Int) (x : Nk) (w : World) (H : TRE w q t g cap xs) (ha : NAt 1 z xs i x) :
    Calls Try.prog 14 #[.pointer (some ⟨q, 0, none⟩), .int .i64 z] w fun e w' => e = .returned (.tuple #[.int .i64 (dep i : Int), .nilIface]) ∧ Below w.heap.size w w' := by
  obtain ⟨l, hp, hl⟩ := hI.path (dep i) i x z rfl ha
  have hd := hI.le i x ha.1 ha.2.1
  have HP := Lib.hid (tpath_ok hI hp q t g cap w H)
  clear H ha hp
  go_enter Try.func14, Try.ntmps14
  go_wp2_with fail
  refine HP.out.mono ?_
  rintro e w1 ⟨v, rfl, hR, hb⟩
  obtain ⟨A, c, rfl⟩ := Kd.R_slice hR
  have HB := Lib.hid hb
  rw [hl]
  obtain ⟨d, hde⟩ : ∃ d, d = dep i := ⟨_, rfl⟩
  have e1 : ((d + 1 : Nat) : Int) - 1 = (d : Int) := by omega
  have e2 : IntKind.i64.wrap (((d + 1 : Nat) : Int) - 1) = (d : Int) := by rw [e1]; exact IntWalk.i64_in _ (by omega)
  have e3 : wrap64 (((d + 1 : Nat) : Int) - 1) = (d : Int) := by unfold wrap64; omega
  have HDE := Lib.hid hde
  rw [← hde] at hd ⊢
  clear hR hb hl hde
  go_wp2
  go_ret2
  exact ⟨by rw [← HDE.out]; rfl, HB.out⟩
theorem nfree_or (xs : List Nk) : (∃ (i : Nat) (x : Nk), xs[i]? = some x ∧ FreeNk x ∧ ∀ (j : Nat) (y : Nk), j < i → xs[j]? = some y → ¬ FreeNk y) ∨ ∀ (j : Nat) (y : Nk), xs[j]? = some y → ¬ FreeNk y := by
  by_cases h : ∃ i : Nat, ∃ x, xs[i]? = some x ∧ FreeNk x
  · left
    obtain ⟨n, hn⟩ : ∃ n : Nat, ∃ x, xs[n]? = some x ∧ FreeNk x := h
    induction n using Nat.strongRecOn with
    | _ n ih =>
      by_cases h2 : ∃ m : Nat, m < n ∧ ∃ x, xs[m]? = some x ∧ FreeNk x
      · obtain ⟨m, hm, hx⟩ := h2
        exact ih m hm hx
      · obtain ⟨x, hx, hf⟩ := hn
        exact ⟨n, x, hx, hf, fun j y hj hy hfy => h2 ⟨j, hj, y, hy, hfy⟩⟩
  · right
    exact fun j y hy hf => h ⟨j, y, hy, hf⟩
/-- Add at a node that is there: a child, or the error. -/
theorem tadd_any {xs : List Nk} {dep : Nat → Nat} (hI : TI xs dep) (q t g cap j : Nat) (z : Int) (y : Nk) (w : World) (H : TRE w q t g cap xs) (ha : NAt 1 z xs j y) :
    Calls Try.prog 7 #[.pointer (some ⟨q, 0, none⟩), .int .i64 z] w fun e w' => ∃ a b ys dep', e = .returned (.tuple #[a, b]) ∧ TRE w' q t g cap ys ∧ TI ys dep' ∧ Chg (fun k => k = g) w w' := by
  have HD := Lib.hid (tdepth_ok hI q t g cap j z y w H ha)
  have HH := Lib.hid H
  have hd := hI.le j y ha.1 ha.2.1
  have HI := Lib.hid hI
  have HA := Lib.hid ha
  obtain ⟨d, hde⟩ : ∃ d, d = dep j := ⟨_, rfl⟩
  rw [← hde] at HD hd
  have HDE := Lib.hid hde
  clear H ha hI hde
  go_enter Try.func7, Try.ntmps7
  go_wp2_with fail
  refine HD.out.mono ?_
  rintro e w1 ⟨rfl, hb⟩
  have H1 := HH.out.below hb
  have c0 := H1.c0
  have HH1 := Lib.hid H1
  have HB := Lib.hid hb
  clear hb H1
  by_cases h8 : d = 8
  · subst h8
    go_wp2
    go_ret2
    exact ⟨_, _, xs, dep, rfl, HH1.out, HI.out, Chg.ofBelow HB.out _⟩
  · have k1 : ((d : Int) == 8) = false := by rw [beq_eq_false_iff_ne]; omega
    have k1' : decide ((d : Int) = 8) = false := decide_eq_false (by omega)
    have k1'' : decide (d = 8) = false := decide_eq_false h8
    rcases nfree_or xs with ⟨i, x, hx, hf, hfr⟩ | hfr
    · have HX := Lib.hid hx
      have HF := Lib.hid hf
      have HFR := Lib.hid hfr
      have hd7 := Lib.hid (show dep j ≤ 7 by have := HDE.out; omega)
      clear hx hf hfr h8
      go_wp2_with fail
      refine (nadd_hit t g 64 cap i 1 z xs x _ HH1.out.nt HI.out.nm HX.out HF.out HFR.out).mono ?_
      rintro e w2 ⟨rfl, hT2, hc2⟩
      have HT2 := Lib.hid hT2
      have HC2 := Lib.hid hc2
      clear hT2 hc2
      go_wp2
      go_ret2
      exact ⟨_, _, _, _, rfl, HH1.out.put HC2.out HT2.out, HI.out.add HX.out HF.out HA.out hd7.out, (Chg.ofBelow HB.out _).trans HC2.out⟩
    · have HFR := Lib.hid hfr
      clear hfr h8
      go_wp2_with fail
      refine (nadd_full t g 64 cap 1 z xs _ HH1.out.nt HI.out.nm HFR.out).mono ?_
      rintro e w2 ⟨rfl, hb2⟩
      have HT2 := Lib.hid (HH1.out.below hb2)
      have HB2 := Lib.hid (below_call HB.out (Nat.le_refl _) hb2)
      clear hb2
      go_wp2
      go_ret2
      exact ⟨_, _, xs, dep, rfl, HT2.out, HI.out, Chg.ofBelow HB2.out _⟩

theorem troot_ok (q t g cap : Nat) (xs : List Nk) (w : World) (H : TRE w q t g cap xs) :
    Calls Try.prog 9 #[.pointer (some ⟨q, 0, none⟩)] w fun e w' => e = .returned (.int .i64 rootH) ∧ w = w' := by
  have c1 := H.c1
  obtain ⟨r, hr⟩ : ∃ r, r = rootH := ⟨_, rfl⟩
  rw [← hr] at c1 ⊢
  clear H hr
  go_enter Try.func9, Try.ntmps9
  go_wp2
  go_ret
  exact ⟨rfl, rfl⟩

theorem tnew_ok (w : World) :
    Calls Try.prog 5 #[] w fun e w' => ∃ q t g cap, e = .returned (.pointer (some ⟨q, 0, none⟩)) ∧ TRE w' q t g cap xsT0 ∧ w.heap.size ≤ g ∧ Below w.heap.size w w' := by
  go_enter Try.func5, Try.ntmps5
  go_wp2_with fail
  refine (nnews_ok 1 64 _ (by omega) (by omega) (by omega) (by omega)).mono ?_
  rintro e w1 ⟨t, g, cap, rfl, hT, ht, hg, hb⟩
  have HT := Lib.hid hT
  have HB := Lib.hid hb
  have Ht := Lib.hid ht
  have Hg := Lib.hid hg
  clear hT hb ht hg
  go_wp2_with fail
  refine (nadd_hit t g 64 cap 0 1 0 (List.replicate 64 oneNk) oneNk _ HT.out (NM.one (by omega) (by omega) (by omega) (by omega)) rfl ⟨rfl, by decide⟩ (fun j y hj => absurd hj (Nat.not_lt_zero j))).mono ?_
  rintro e w2 ⟨rfl, hT2, hc2⟩
  obtain ⟨r, hr⟩ : ∃ r, r = mk 1 ((0 : Nat) : Int) oneNk.f0 := ⟨_, rfl⟩
  rw [← hr]
  have HR := Lib.hid (hr.trans (show mk 1 ((0 : Nat) : Int) oneNk.f0 = rootH from rfl))
  have HT2 := Lib.hid hT2
  have HB2 := Lib.hid (HB.out.trans (hc2.below HB.out.size (fun k e => by have := Hg.out; omega)))
  clear hT2 hc2 hr
  go_wp2
  go_ret
  refine ⟨_, t, g, cap, rfl, ⟨?_, HT2.out.below ((Below.refl _ w2).alloc (Nat.le_refl _) _)⟩, Hg.out, below_alloc HB2.out (Nat.le_refl _) _⟩
  rw [← HR.out]
  exact heap_alloc_new w2 _

end Go.Proofs.Ytgjlkplieoajlaa
