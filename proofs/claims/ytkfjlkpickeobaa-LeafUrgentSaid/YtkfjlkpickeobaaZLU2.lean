/- Of the text LU2 only what this claim needs (shake.py, this repo's). -/
import Derived.Test.YtkfjlkpickeobaaZLU3
set_option linter.unusedVariables false
set_option linter.unusedSimpArgs false
namespace Go.Proofs.Ytkfjlkpickeobaa
open Go.RowKit
open Go.Proofs.YtkfjlkpickeobaaW.PrintWords (Kd Drawn0 Kept rd rdOf)
open Go.Proofs.Ytkfjlkpickeobaa.PLeafUrgent
set_option maxRecDepth 100000

set_option maxHeartbeats 8000000 in
theorem lurg_ok (A : Option Addr) (n c : Nat) (w : World) (hO : OPS w A n) (hn : n ≤ 9223372036854775807) :
    Calls Try.prog 3 #[.slice A n c] w fun e w' => e = .returned (.bool true) ∧ Below w.heap.size w w' := by
  have HO := Lib.hid hO
  clear hO
  go_enter Try.func3, Try.ntmps3
  go_wp2_with fail
  refine (lnew_ok _).mono ?_
  rintro e w1 ⟨p, t, g, cap, rfl, hL, hp, ht, hg, hb⟩
  have HL0 := Lib.hid hL
  have HB0 := Lib.hid hb
  have HG := Lib.hid hg
  clear hL hb hp ht hg
  go_wp2_with fail
  go_loopw [4, 5, 6] (fun u gn i wr => ∃ (k : Nat) (used gone : Int) (xs : List Sk), (k ≤ n ∧ k ≤ 200) ∧ u = .int .i64 used ∧ gn = .int .i64 gone ∧ i = .int .i64 k ∧ (0 ≤ used ∧ used ≤ 200) ∧ (0 ≤ gone ∧ gone ≤ 200) ∧ Hid (LI xs used gone k) ∧ Hid (LF wr p t g cap xs) ∧ Hid (Below w.heap.size w wr)) (fun _ _ i _ => n - (intOf i).toNat)
  case atStart => exact ⟨0, 0, 0, List.replicate 8 oneSk, by omega, rfl, rfl, rfl, by omega, by omega, Lib.hid LI.start, HL0, HB0⟩
  case round =>
    clear HL0 HB0
    obtain ⟨k, used, gone, xs, hk, rfl, rfl, rfl, hub, hgb, hI, hL, hB⟩ := hrel
    have HXL := Lib.hid (show ∀ (j i : Nat) (x : Sk), (tkL 0 xs)[j]? = some (i, x) → x.T.js.length * 32 ≤ 140737488351232 from fun j i x hx => tk_sz (hI.out.okL hx))
    by_cases hlt : k < n ∧ k < 200
    · obtain ⟨hlt1, hlt2⟩ := hlt
      obtain ⟨b, o, rfl, kd, N, hh0, f0, f1, f2, f3, c0, c1, c2, c3, c4, c5, c6⟩ : ∃ b o, A = some ⟨b, o, none⟩ ∧ ∃ k0 k1 k2 k3 k4 k5 k6 : Int,
          wr.cell? ⟨b, o + k * 7, none⟩ = some (.int .i64 k0) ∧ wr.cell? ⟨b, o + k * 7 + 1, none⟩ = some (.int .i64 k1) ∧ wr.cell? ⟨b, o + k * 7 + 2, none⟩ = some (.int .i64 k2) ∧ wr.cell? ⟨b, o + k * 7 + 3, none⟩ = some (.int .i64 k3) ∧ wr.cell? ⟨b, o + k * 7 + 4, none⟩ = some (.int .i64 k4) ∧ wr.cell? ⟨b, o + k * 7 + 5, none⟩ = some (.int .i64 k5) ∧ wr.cell? ⟨b, o + k * 7 + 6, none⟩ = some (.int .i64 k6) := by
        rcases HO.out with h | ⟨b, o, e, h⟩
        · omega
        · obtain ⟨k0, k1, k2, k3, k4, k5, k6, h0, h1, h2, h3, h4, h5, h6⟩ := h k hlt1
          exact ⟨b, o, e, k0, k1, k2, k3, k4, k5, k6, keep hB.out h0, keep hB.out h1, keep hB.out h2, keep hB.out h3, keep hB.out h4, keep hB.out h5, keep hB.out h6⟩
      go_wp2_with fail
      refine (lall_ok p t g cap xs _ hL.out).mono ?_
      rintro e w2 ⟨va, rfl, hR, hb⟩
      obtain ⟨A2, ca, rfl⟩ := Kd.R_slice hR
      obtain ⟨m, hm⟩ : ∃ m, m = (tallH 2 xs).length := ⟨_, rfl⟩
      have HM : Hid (m = (tkL 0 xs).length ∧ m ≤ 8) := Lib.hid ⟨by rw [hm, tall_len], by rw [hm, tall_len]; have := tkL_len xs 0; have := hL.out.tm.len; omega⟩
      rw [← hm] at hR ⊢
      have hm8 : m ≤ 8 := HM.out.2
      have HR := Lib.hid hR
      have c0' := keep hb c0
      have c1' := keep hb c1
      have c2' := keep hb c2
      have c3' := keep hb c3
      have c4' := keep hb c4
      have HL2 := Lib.hid (hL.out.below hb)
      have HB2 := Lib.hid (below_call hB.out (Nat.le_refl _) hb)
      clear hR hb hm hB hL c0 c1 c2 c3 c4 c5 c6
      by_cases hk3 : kd = 3
      · subst hk3
        go_wp2_with fail
        refine loopB HM HR HL2 HB2 hI HXL (Lib.hid ?_)
        intro bb wr2 n10 n11 n47 n48 n49 n50 n51 n52 n53 n54 n55 n56 n57 n58 n59 n60 n61 n62 n63 n64 n65 n66 n67 n68 n69 n70 n71 n72 n73 n74 n75 n76 n77 hbF hbb hB hB2
        have HL3 := Lib.hid (HL2.out.below hB2)
        go_wp2_with fail
        refine (lready_ok p t g cap xs _ HL3.out).mono ?_
        rintro e w5 ⟨rfl, hb5⟩
        have HL5 := Lib.hid (HL3.out.below hb5)
        have HB5 := Lib.hid (below_call hB (Nat.le_refl _) hb5)
        clear hb5
        rcases hI.out.best HL3.out.tm with ⟨e1, e2, hno⟩ | ⟨i, x, hs, hne, e1, hp0, hp31, hjl, hok⟩
        · obtain rfl : bb = -1 := by rw [← hbF]; exact e1
          rw [e2]
          have HNO := Lib.hid hno
          have HE2 := Lib.hid e2
          clear hbF e1 e2 hno
          go_wp2_with fail
          refine (ltask_miss p t g cap 0 xs _ HL5.out HNO.out).mono ?_
          rintro e w6 ⟨rfl, hb6⟩
          obtain ⟨W7, hW7⟩ : ∃ W, W = w6.alloc (.cells #[.int .i64 0, .slice none 0 0, .int .i64 0, .int .i64 0, .int .i64 0, .int .i64 0, .int .i64 0, .int .i64 0] 36) := ⟨_, rfl⟩
          have hb7 : Below w5.heap.size w5 W7 := by rw [hW7]; exact below_alloc hb6 (Nat.le_refl _) _
          have HL7 := Lib.hid (HL5.out.below hb7)
          have HB7 := Lib.hid (below_call HB5.out (Nat.le_refl _) hb7)
          have HW7 := Lib.hid hW7
          clear hb6 hb7 hW7
          go_wp2_with fail
          rw [← HW7.out]
          refine (loffer_none p t g cap (k : Int) xs W7 HL7.out (by rw [HE2.out]; exact HNO.out)).mono ?_
          rintro e w8 ⟨rfl, hb8⟩
          have HL8 := Lib.hid (HL7.out.below hb8)
          have HB8 := Lib.hid (below_call HB7.out (Nat.le_refl _) hb8)
          clear hb8
          go_wp2
          go_roundw
          case rel => exact ⟨k + 1, used, gone, xs, by omega, rfl, rfl, by go_num, by omega, by omega, Lib.hid hI.out.next, HL8, HB8⟩
          case measure => simp [intOf]; omega
        · obtain rfl : bb = x.T.p := by rw [← hbF]; exact e1
          obtain ⟨hh, hhh⟩ : ∃ y, y = readyF xs := ⟨_, rfl⟩
          obtain ⟨T1, wh, by_, hrun, hok1, hg1, hp1⟩ := runF_ok (now := (k : Int)) hok (fun h => by rw [h] at hjl; simp at hjl) (by omega) (by have := hI.out.g0 hs.1 hs.2.1; omega)
          have hus := hI.out.us
          have hx0 := hI.out.g0 hs.1 hs.2.1
          have HS := Lib.hid hs
          have HTK := Lib.hid (ltask_hit p t g cap i (readyF xs) xs x w5 HL5.out hs (tk_sz hok))
          rw [← hhh] at HTK ⊢
          have HRUN := Lib.hid hrun
          have HOK1 := Lib.hid (show T1.okB = true ∧ T1.g = x.T.g + 1 from ⟨hok1, hg1⟩)
          have HHH := Lib.hid hhh
          have k1 : (hh == 0) = false := by rw [beq_eq_false_iff_ne, hhh]; exact hne
          have k2 : decide (hh = 0) = false := decide_eq_false (by rw [hhh]; exact hne)
          have k3 : (hh != 0) = true := by rw [bne_iff_ne, hhh]; exact hne
          have k4 : decide (x.T.p < 0) = false := decide_eq_false (by omega)
          obtain ⟨jl, hjle⟩ : ∃ y, y = x.T.js.length := ⟨_, rfl⟩
          have k5 : decide ((jl : Int) = 0) = false := decide_eq_false (by omega)
          have k6 : decide (jl = 0) = false := decide_eq_false (by omega)
          have k7 : ((jl : Int) == 0) = false := by rw [beq_eq_false_iff_ne]; omega
          have HJL := Lib.hid hjle
          clear hbF e1 hs hne hjl hok hrun hok1 hg1 hp1 hhh hjle hus hx0
          go_wp2_with fail
          refine HTK.out.mono ?_
          rintro e w6 ⟨v, rfl, hj6, hb6⟩
          obtain ⟨B, d, rfl⟩ := hj6.slice
          rw [← HJL.out] at hj6 ⊢
          obtain ⟨W7, hW7⟩ : ∃ W, W = w6.alloc (.cells #[.int .i64 x.T.p, .slice B jl d, .int .i64 x.T.g, .int .i64 x.T.o, .int .i64 x.T.l, .int .i64 x.T.d, .int .i64 x.T.c, .int .i64 x.T.t] 36) := ⟨_, rfl⟩
          obtain ⟨b13, hb13⟩ : ∃ b, b = w6.heap.size := ⟨_, rfl⟩
          have hb7 : Below w5.heap.size w5 W7 := by rw [hW7]; exact below_alloc hb6 (Nat.le_refl _) _
          have hk13 : W7.heap[b13]? = some (.cells #[.int .i64 x.T.p, .slice B jl d, .int .i64 x.T.g, .int .i64 x.T.o, .int .i64 x.T.l, .int .i64 x.T.d, .int .i64 x.T.c, .int .i64 x.T.t] 36 (0, 0)) := by rw [hW7, hb13]; exact heap_alloc_new w6 _
          have hgb : g < b13 := by rw [hb13]; exact Nat.lt_of_lt_of_le HL5.out.tt.ltg hb6.size
          have HL7 := Lib.hid (HL5.out.below hb7)
          have HB7 := Lib.hid (below_call HB5.out (Nat.le_refl _) hb7)
          have HK13 := Lib.hid hk13
          have HGB := Lib.hid hgb
          have HW7 := Lib.hid hW7
          have Hb13 := Lib.hid hb13
          clear hj6 hb6 hb7 hW7 hb13 hk13 hgb
          go_wp2_with fail
          rw [← HW7.out, ← Hb13.out]
          refine (loffer_ok p t g cap i (k : Int) wh by_ xs x T1 W7 HL7.out HS.out HRUN.out).mono ?_
          rintro e w8 ⟨v8, rfl, hL8, hc8⟩
          rw [← HHH.out]
          have hk8 := hc8.heap HK13.out (fun e => by have := HGB.out; omega)
          obtain ⟨⟨q0, q1, q2, q3, q4, q5, q6, q7⟩, -⟩ := blk8 hk8
          have HL8 := Lib.hid hL8
          have HB8 := Lib.hid (HB7.out.trans (chg_base hc8 HB7.out.size HG.out))
          have HI8 : Hid (LI (xs.set i ⟨x.f0, x.f1, v8, T1⟩) (used + 1) gone (k + 1)) := Lib.hid (hI.out.set ⟨x.f0, x.f1, v8, T1⟩ HS.out.1 (fun _ => HOK1.out.1) (by unfold gx; rw [if_pos HS.out.2.1, if_pos HS.out.2.1]; have := HOK1.out.2; show T1.g - x.T.g = _; omega) (by have := hI.out.us; omega) hI.out.go)
          have hub8 : 0 ≤ used + 1 ∧ used + 1 ≤ 200 := by have := hI.out.us; omega
          clear hL8 hc8 hk8
          go_wp2
          go_roundw
          case rel => exact ⟨k + 1, used + 1, gone, _, by omega, by go_num, rfl, by go_num, hub8, by omega, HI8, HL8, HB8⟩
          case measure => simp [intOf]; omega

      · have e3 : (kd == 3) = false := by rw [beq_eq_false_iff_ne]; exact hk3
        have e3' : decide (kd = 3) = false := decide_eq_false hk3
        clear hk3
        by_cases hk0 : kd = 0 ∨ m = 0
        · obtain ⟨r4, hr4, hr4b⟩ := umod N 4 (by omega) (by omega)
          by_cases hk1 : kd = 0
          · subst hk1
            clear e3 e3'
            go_wp2_with fail
            refine (ladd_any p t g cap (r4 : Int) xs w2 HL2.out (by omega) hI.out).mono ?_
            rintro e w3 ⟨va, vb, ys, rfl, hL3, hc3, hI3⟩
            have HL3 := Lib.hid hL3
            have HI3 := Lib.hid hI3
            have HB3 := Lib.hid (HB2.out.trans (chg_base hc3 HB2.out.size HG.out))
            clear hL3 hc3 hI3
            go_wp2
            go_roundw
            case rel => exact ⟨k + 1, used, gone, ys, by omega, rfl, rfl, by go_num, by omega, by omega, HI3, HL3, HB3⟩
            case measure => simp [intOf]; omega
          · obtain rfl : m = 0 := by omega
            have e0 : (kd == 0) = false := by rw [beq_eq_false_iff_ne]; exact hk1
            have e0' : decide (kd = 0) = false := decide_eq_false hk1
            clear hk1 hk0
            go_wp2_with fail
            refine (ladd_any p t g cap (r4 : Int) xs w2 HL2.out (by omega) hI.out).mono ?_
            rintro e w3 ⟨va, vb, ys, rfl, hL3, hc3, hI3⟩
            have HL3 := Lib.hid hL3
            have HI3 := Lib.hid hI3
            have HB3 := Lib.hid (HB2.out.trans (chg_base hc3 HB2.out.size HG.out))
            clear hL3 hc3 hI3
            go_wp2
            go_roundw
            case rel => exact ⟨k + 1, used, gone, ys, by omega, rfl, rfl, by go_num, by omega, by omega, HI3, HL3, HB3⟩
            case measure => simp [intOf]; omega
        · have e0 : (kd == 0) = false := by rw [beq_eq_false_iff_ne]; omega
          have e0' : decide (kd = 0) = false := decide_eq_false (by omega)
          have e1 : ((m : Int) == 0) = false := by rw [beq_eq_false_iff_ne]; omega
          have e1' : decide ((m : Int) = 0) = false := decide_eq_false (by omega)
          have e1x : decide (m = 0) = false := decide_eq_false (by omega)
          obtain ⟨r, hr, hrm'⟩ := umod hh0 (m : Int) (by omega) (by omega)
          have hrm : r < m := by omega
          obtain ⟨⟨i, x⟩, hx⟩ : ∃ q, (tkL 0 xs)[r]? = some q := ⟨_, List.getElem?_eq_getElem (by have := HM.out.1; omega)⟩
          have hs := tkL_at hx
          obtain ⟨gh, rfl, hc⟩ := int_at HR.out (tall_at hx)
          obtain ⟨hh, hhh⟩ : ∃ y, y = mk 2 i x.f0 := ⟨_, rfl⟩
          rw [← hhh] at hc hs
          have hgx := hI.out.g0 hs.1 hs.2.1
          have hus := hI.out.us
          have HS := Lib.hid hs
          have HXX := Lib.hid hx
          clear hs hx hhh hk0
          by_cases hk1 : kd = 1
          · subst hk1
            clear e0 e0' e3 e3'
            go_wp2_with fail
            refine (ldrop_hit p t g cap i hh xs x w2 HL2.out HS.out).mono ?_
            rintro e w3 ⟨rfl, hL3, hc3⟩
            have HL3 := Lib.hid (hL3.below ((Below.refl _ w3).alloc (Nat.le_refl _) (.cells #[.int .i64 x.T.g, .int .i64 x.T.o, .int .i64 x.T.l, .int .i64 x.T.d, .int .i64 x.T.c, .int .i64 x.T.t] 34)))
            have HB3 := Lib.hid (below_alloc (HB2.out.trans (chg_base hc3 HB2.out.size HG.out)) (by have := HB2.out.size; have := hc3.size; omega) (.cells #[.int .i64 x.T.g, .int .i64 x.T.o, .int .i64 x.T.l, .int .i64 x.T.d, .int .i64 x.T.c, .int .i64 x.T.t] 34))
            have HI3 : Hid (LI (xs.set i (noSk (x.f0 + 1))) used (gone + x.T.g) (k + 1)) := Lib.hid (hI.out.set (noSk (x.f0 + 1)) HS.out.1 (fun h => by simp at h) (by unfold gx; rw [if_neg (fun h => by simp at h), if_pos HS.out.2.1]; omega) (by omega) (by omega))
            clear hL3 hc3
            go_wp2
            go_roundw
            case rel => exact ⟨k + 1, used, gone + x.T.g, _, by omega, rfl, by go_num, by go_num, by omega, by omega, HI3, HL3, HB3⟩
            case measure => simp [intOf]; omega
          · have e2 : (kd == 1) = false := by rw [beq_eq_false_iff_ne]; exact hk1
            have e2' : decide (kd = 1) = false := decide_eq_false hk1
            obtain ⟨r5, hr5, hr5b⟩ := umod f0 5 (by omega) (by omega)
            obtain ⟨r4, hr4, hr4b⟩ := umod f1 4 (by omega) (by omega)
            have hr5' : IntKind.i64.wrap ((IntKind.u64.wrap f0).tmod 5) = (r5 : Int) := by rw [w64_i]; exact hr5
            have hr4' : IntKind.i64.wrap ((IntKind.u64.wrap f1).tmod 4) = (r4 : Int) := by rw [w64_i]; exact hr4
            have hs5 : IntKind.i64.wrap (1 + (r5 : Int)) = 1 + (r5 : Int) := by rw [IntKind.wrap_i64]; omega
            obtain ⟨T1, E, hpu⟩ : ∃ T1 E, pushF x.T ⟨1 + (r5 : Int), (r4 : Int), 0, 0⟩ (k : Int) = (T1, E) := ⟨_, _, rfl⟩
            have HPU := Lib.hid hpu
            clear hk1 hpu
            by_cases hE : E = 0
            · subst hE
              have HPS := Lib.hid (fun W (hB : Below w2.heap.size w2 W) => lpush_ok p t g cap i hh (k : Int) ⟨1 + (r5 : Int), (r4 : Int), 0, 0⟩ xs x T1 W (HL2.out.below hB) HS.out HPU.out)
              have hpo := pushF_ok HPU.out
              have HII : Hid (∀ v, LI (xs.set i ⟨x.f0, x.f1, v, T1⟩) used gone (k + 1)) := Lib.hid (fun v3 => hI.out.set ⟨x.f0, x.f1, v3, T1⟩ HS.out.1 (fun _ => hpo.1) (by unfold gx; rw [if_pos HS.out.2.1, if_pos HS.out.2.1]; have := hpo.2.1; show T1.g - x.T.g = _; omega) (by omega) hI.out.go)
              clear hpo
              go_wp2_with fail
              refine reg32a (E := 0) hlt1 hn c3' c4' hr5' hr4' hs5 hr5 hr4 ⟨hr5b, hr4b⟩ HL2 HB2 HG hI hub hgb HPS HII (Lib.hid ?_)
              intro ys W n176 n177 n178 n179 n180 n181 n182 n183 n184 n185 n186 n187 n188 n189 n190 n191 n192 n193 n194 n195 n196 n197 n198 n199 hI3 hL3 hB3
              have HI3 := Lib.hid hI3
              have HL3 := Lib.hid hL3
              have HB3 := Lib.hid hB3
              clear hI3 hL3 hB3
              go_wp2
              go_roundw
              case rel => exact ⟨k + 1, used, gone, ys, by omega, rfl, rfl, by go_num, by omega, by omega, HI3, HL3, HB3⟩
              case measure => simp [intOf]; omega
            · have HPS := Lib.hid (fun W (hB : Below w2.heap.size w2 W) => lpush_err p t g cap i hh (k : Int) E ⟨1 + (r5 : Int), (r4 : Int), 0, 0⟩ xs x T1 W (HL2.out.below hB) HS.out HPU.out hE)
              go_wp2_with fail
              refine reg32b (T1 := T1) (x := x) (i := i) hlt1 hn c3' c4' hr5' hr4' hs5 hr5 hr4 ⟨hr5b, hr4b⟩ HL2 HB2 HG hI hub hgb HPS (Lib.hid ?_)
              intro ys W n176 n177 n178 n179 n180 n181 n182 n183 n184 n185 n186 n187 n188 n189 n190 n191 n192 n193 n194 n195 n196 n197 n198 n199 hI3 hL3 hB3
              have HI3 := Lib.hid hI3
              have HL3 := Lib.hid hL3
              have HB3 := Lib.hid hB3
              clear hI3 hL3 hB3
              go_wp2
              go_roundw
              case rel => exact ⟨k + 1, used, gone, ys, by omega, rfl, rfl, by go_num, by omega, by omega, HI3, HL3, HB3⟩
              case measure => simp [intOf]; omega
    · have hus := hI.out.us
      by_cases hk1 : k < n
      · have d1 : decide ((k : Int) < (n : Int)) = true := decide_eq_true (by omega)
        have d1' : decide (k < n) = true := decide_eq_true hk1
        have d2 : decide ((k : Int) < 200) = false := decide_eq_false (by omega)
        have d2' : decide (k < 200) = false := decide_eq_false (by omega)
        clear hk1 hlt
        go_wp2_with fail
        refine (lall_ok p t g cap xs _ hL.out).mono ?_
        rintro e w2 ⟨va, rfl, hR, hb⟩
        obtain ⟨A2, ca, rfl⟩ := Kd.R_slice hR
        obtain ⟨m, hm⟩ : ∃ m, m = (tallH 2 xs).length := ⟨_, rfl⟩
        have HM : Hid (m = (tkL 0 xs).length ∧ m ≤ 8) := Lib.hid ⟨by rw [hm, tall_len], by rw [hm, tall_len]; have := tkL_len xs 0; have := hL.out.tm.len; omega⟩
        rw [← hm] at hR ⊢
        have hm8 : m ≤ 8 := HM.out.2
        have HR := Lib.hid hR
        have HL2 := Lib.hid (hL.out.below hb)
        have HB2 := Lib.hid (below_call hB.out (Nat.le_refl _) hb)
        clear hR hb hm hB hL
        go_wp2_with fail
        refine loopS HM HR HL2 HB2 hI HXL hgb hub (Lib.hid ?_)
        intro wr3 n24 n25 n203 n204 n205 n206 n207 n208 n209 n210 n211 n212 n213 n214 n215 n216 n217 n218 n219 n220 n221 n222 hB
        go_wp2_with fail
        refine (sure13_ok _).mono ?_
        rintro e w9 ⟨rfl, hb9⟩
        have HB9 := Lib.hid (below_call hB (Nat.le_refl _) hb9)
        clear hb9
        go_wp2
        go_ret
        exact ⟨rfl, HB9.out⟩
      · have d1 : decide ((k : Int) < (n : Int)) = false := decide_eq_false (by omega)
        have d1' : decide (k < n) = false := decide_eq_false hk1
        clear hk1 hlt
        go_wp2_with fail
        refine (lall_ok p t g cap xs _ hL.out).mono ?_
        rintro e w2 ⟨va, rfl, hR, hb⟩
        obtain ⟨A2, ca, rfl⟩ := Kd.R_slice hR
        obtain ⟨m, hm⟩ : ∃ m, m = (tallH 2 xs).length := ⟨_, rfl⟩
        have HM : Hid (m = (tkL 0 xs).length ∧ m ≤ 8) := Lib.hid ⟨by rw [hm, tall_len], by rw [hm, tall_len]; have := tkL_len xs 0; have := hL.out.tm.len; omega⟩
        rw [← hm] at hR ⊢
        have hm8 : m ≤ 8 := HM.out.2
        have HR := Lib.hid hR
        have HL2 := Lib.hid (hL.out.below hb)
        have HB2 := Lib.hid (below_call hB.out (Nat.le_refl _) hb)
        clear hR hb hm hB hL
        go_wp2_with fail
        refine loopS HM HR HL2 HB2 hI HXL hgb hub (Lib.hid ?_)
        intro wr3 n24 n25 n203 n204 n205 n206 n207 n208 n209 n210 n211 n212 n213 n214 n215 n216 n217 n218 n219 n220 n221 n222 hB
        go_wp2_with fail
        refine (sure13_ok _).mono ?_
        rintro e w9 ⟨rfl, hb9⟩
        have HB9 := Lib.hid (below_call hB (Nat.le_refl _) hb9)
        clear hb9
        go_wp2
        go_ret
        exact ⟨rfl, HB9.out⟩

theorem lurg_rd {a : Option Addr} {n c : Nat} {w : World} (h0 : Rd22 w [.slice a n c]) :
    Calls Try.prog 3 #[.slice a n c] w fun e w' => e = .returned (.bool true) ∧ Below w.heap.size w w' := by
  obtain ⟨h, -, hn⟩ := ops_of_rd h0
  exact lurg_ok a n c w h hn

end Go.Proofs.Ytkfjlkpickeobaa
