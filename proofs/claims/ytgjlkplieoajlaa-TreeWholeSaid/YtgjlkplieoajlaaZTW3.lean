/- Of the text TW3 only what this claim needs (shake.py, this repo's). -/
import Derived.Test.YtgjlkplieoajlaaZTW2
set_option linter.unusedVariables false
set_option linter.unusedSimpArgs false
namespace Go.Proofs.Ytgjlkplieoajlaa
open Go.RowKit
open Go.Proofs.YtgjlkplieoajlaaW.PrintWords (Kd Drawn0 Kept rd rdOf)
open Go.Proofs.Ytgjlkplieoajlaa.PTreeWhole
set_option maxRecDepth 100000

theorem troot_q (q t g cap : Nat) (xs : List Nk) (r : Int) (w : World) (H : TRE w q t g cap xs) (hr : r = rootH) :
    Calls Try.prog 9 #[.pointer (some ⟨q, 0, none⟩)] w fun e w' => e = .returned (.int .i64 r) ∧ ∃ m, w' = w.drewN m := by
  refine (troot_ok q t g cap xs w H).mono ?_
  rintro e w' ⟨rfl, rfl⟩
  exact ⟨by rw [hr], 0, rfl⟩
def cntL (z : Int) (L : List Int) : Nat := (L.filter fun a => decide (a = z)).length
theorem cnt_succ {z : Int} {L : List Int} {k : Nat} {a : Int} (h : L[k]? = some a) : cntL z (L.take (k + 1)) = if a = z then cntL z (L.take k) + 1 else cntL z (L.take k) := by
  unfold cntL
  rw [List.take_add_one, h]
  simp only [Option.toList_some, List.filter_append, List.length_append]
  by_cases e : a = z
  · rw [if_pos e, List.filter_cons_of_pos (by simpa using e)]; rfl
  · rw [if_neg e, List.filter_cons_of_neg (by simpa using e)]; rfl
theorem cnt_one {z : Int} : ∀ {L : List Int}, L.Nodup → z ∈ L → cntL z L = 1
  | [], _, h => by simp at h
  | a :: L, hn, h => by
    rw [List.nodup_cons] at hn
    unfold cntL
    by_cases e : a = z
    · subst e
      have : L.filter (fun b => decide (b = a)) = [] := by
        rw [List.filter_eq_nil_iff]
        intro b hb hc
        have : b = a := by simpa using hc
        exact hn.1 (this ▸ hb)
      rw [List.filter_cons_of_pos (by simp), this]
      rfl
    · rw [List.filter_cons_of_neg (by simpa using e)]
      rcases List.mem_cons.1 h with e2 | h
      · exact absurd e2.symm e
      · exact cnt_one hn.2 h

set_option maxHeartbeats 8000000 in
theorem twhole_ok (A : Option Addr) (n c : Nat) (a1 : Int) (w : World) (hO : OP3 w A n) (hn : n ≤ 9223372036854775807) :
    Calls Try.prog 4 #[.slice A n c, .int .i64 a1] w fun e w' => e = .returned (.bool true) ∧ Below w.heap.size w w' := by
  have HO := Lib.hid hO
  obtain ⟨r, hr⟩ : ∃ r, r = rootH := ⟨_, rfl⟩
  have HRT := Lib.hid hr
  clear hO hr
  go_enter Try.func4, Try.ntmps4
  go_wp2_with fail
  refine (tnew_ok _).mono ?_
  rintro e w0 ⟨q, t, g, cap, rfl, hT, hg, hb⟩
  have HT0 := Lib.hid hT
  have HB0 := Lib.hid hb
  have HG := Lib.hid hg
  clear hT hg hb
  go_wp2_with fail
  go_loopw [6] (fun i wr => ∃ (k : Nat) (xs : List Nk) (dep : Nat → Nat), (k ≤ n ∧ k ≤ 200) ∧ i = .int .i64 k ∧ Hid (TI xs dep) ∧ Hid (TRE wr q t g cap xs) ∧ Hid (Below w.heap.size w wr)) (fun i _ => n - (intOf i).toNat)
  case atStart => exact ⟨0, _, _, by omega, rfl, Lib.hid TI.start, HT0, HB0⟩
  case round =>
    clear HT0 HB0
    obtain ⟨k, xs, dep, hk, rfl, hI, hT, hB⟩ := hrel
    by_cases hlt : k < n ∧ k < 200
    · obtain ⟨hlt1, hlt2⟩ := hlt
      obtain ⟨b, o, rfl, k0, k1, k2, e0, e1, e2⟩ : ∃ b o, A = some ⟨b, o, none⟩ ∧ ∃ k0 k1 k2 : Int, wr.cell? ⟨b, o + k * 3, none⟩ = some (.int .i64 k0) ∧ wr.cell? ⟨b, o + k * 3 + 1, none⟩ = some (.int .i64 k1) ∧ wr.cell? ⟨b, o + k * 3 + 2, none⟩ = some (.int .i64 k2) := by
        rcases HO.out with h | ⟨b, o, e, h⟩
        · omega
        · obtain ⟨k0, k1, k2, h0, h1, h2⟩ := h k hlt1
          exact ⟨b, o, e, k0, k1, k2, keep hB.out h0, keep hB.out h1, keep hB.out h2⟩
      go_wp2_with fail
      refine (tall_any hI.out q t g cap _ hT.out).mono ?_
      rintro e w2 ⟨v, rfl, hR, hb⟩
      obtain ⟨A2, ca, rfl⟩ := Kd.R_slice hR
      obtain ⟨m, hm⟩ : ∃ m, m = (walkF xs 8 rootH).length := ⟨_, rfl⟩
      have hm1 : 1 ≤ m ∧ m ≤ 64 := by
        have := hI.out.walk_len 8 hI.out.rootAt
        have := walk_pos xs 8 rootH
        omega
      have z0 : ((m : Int) == 0) = false := by rw [beq_eq_false_iff_ne]; omega
      have z0' : decide ((m : Int) = 0) = false := decide_eq_false (by omega)
      have z0'' : decide (m = 0) = false := decide_eq_false (by omega)
      obtain ⟨rr, hr, hrm'⟩ := umod k1 (m : Int) (by omega) (by omega)
      have hrm : rr < m := by omega
      obtain ⟨z, hz⟩ : ∃ z, (walkF xs 8 rootH)[rr]? = some z := ⟨_, List.getElem?_eq_getElem (by omega)⟩
      obtain ⟨gh, rfl, hc⟩ := (RH.rd hR).at hz
      obtain ⟨j, y, -, hj, -⟩ := hI.out.walk_at 8 rootH 0 _ hI.out.rootAt z (List.mem_of_getElem? hz)
      rw [← hm]
      have e0' := keep hb e0
      have e1' := keep hb e1
      have HA := Lib.hid (tadd_any hI.out q t g cap j z y w2 (hT.out.below hb) hj)
      have HM := Lib.hid (tremove_any hI.out q t g cap j z y w2 (hT.out.below hb) hj)
      have HB2 := Lib.hid (below_call hB.out (Nat.le_refl _) hb)
      clear hR hb hz hj hI hT hB e0 e1 e2 hm
      by_cases hk0 : k0 = 1
      · have g1 : (k0 == 1) = true := by rw [beq_iff_eq]; exact hk0
        have g2 : decide (k0 = 1) = true := decide_eq_true hk0
        clear hk0
        go_wp2_with fail
        refine HM.out.mono ?_
        rintro e w3 ⟨a3, b3, ys, dep3, rfl, hT3, hI3, hc3⟩
        have HT3 := Lib.hid hT3
        have HI3 := Lib.hid hI3
        have HB3 := Lib.hid (HB2.out.trans (chg_baseN hc3 HB2.out.size HG.out))
        clear hT3 hI3 hc3
        go_wp2
        go_roundw
        case rel => exact ⟨k + 1, ys, dep3, by omega, by go_num, HI3, HT3, HB3⟩
        case measure => simp [intOf] <;> omega
      · have g1 : (k0 == 1) = false := by rw [beq_eq_false_iff_ne]; exact hk0
        have g2 : decide (k0 = 1) = false := decide_eq_false hk0
        clear hk0
        go_wp2_with fail
        refine HA.out.mono ?_
        rintro e w3 ⟨a3, b3, ys, dep3, rfl, hT3, hI3, hc3⟩
        have HT3 := Lib.hid hT3
        have HI3 := Lib.hid hI3
        have HB3 := Lib.hid (HB2.out.trans (chg_baseN hc3 HB2.out.size HG.out))
        clear hT3 hI3 hc3
        go_wp2
        go_roundw
        case rel => exact ⟨k + 1, ys, dep3, by omega, by go_num, HI3, HT3, HB3⟩
        case measure => simp [intOf] <;> omega
    · by_cases hk1 : k < n
      · have d1 : decide ((k : Int) < (n : Int)) = true := decide_eq_true (by omega)
        have d1' : decide (k < n) = true := decide_eq_true hk1
        have d2 : decide ((k : Int) < 200) = false := decide_eq_false (by omega)
        have d2' : decide (k < 200) = false := decide_eq_false (by omega)
        clear hk1 hlt
        go_wp2_with fail
        refine (tall_any hI.out q t g cap wr hT.out).mono ?_
        rintro e w1 ⟨v1, rfl, hR1, hb1⟩
        obtain ⟨L, hL⟩ : ∃ L, L = walkF xs 8 rootH := ⟨_, rfl⟩
        have hll := hI.out.walk_len 8 hI.out.rootAt
        have hl1 := walk_pos xs 8 rootH
        have hat := hI.out.walk_at 8 rootH 0 _ hI.out.rootAt
        have hnd := hI.out.walk_nodup 8 rootH 0 _ hI.out.rootAt
        rw [← hL] at hR1 hll hl1 hat hnd
        have HL := Lib.hid hL
        have HAT := Lib.hid hat
        have HND := Lib.hid hnd
        have hh0 : L[0]? = some rootH := by rw [hL]; rfl
        have HH0 := Lib.hid hh0
        obtain ⟨A1, c1, rfl⟩ := Kd.R_slice hR1
        obtain ⟨nL, hnL⟩ : ∃ n, n = L.length := ⟨_, rfl⟩
        have HNL := Lib.hid hnL
        rw [← hnL] at hR1 hll hl1 ⊢
        have RD1 := Lib.hid (RH.rd hR1)
        have HT1 := Lib.hid (hT.out.below hb1)
        have HB1 := Lib.hid (below_call hB.out (Nat.le_refl _) hb1)
        clear hR1 hb1 hL hat hnd hnL hh0 hT hB
        go_wp2_with fail
        go_loopw [10] (fun i ww => ∃ j : Nat, j ≤ nL ∧ i = .int .i64 j ∧ Hid (Below w1.heap.size w1 ww)) (fun i _ => nL - (intOf i).toNat)
        case atStart => exact ⟨0, Nat.zero_le _, rfl, Lib.hid (Below.refl _ _)⟩
        case round =>
          obtain ⟨j, hj, rfl, hB⟩ := hrel
          by_cases hlt : j < nL
          · obtain ⟨z, hz⟩ : ∃ z, L[j]? = some z := ⟨_, List.getElem?_eq_getElem (by have := HNL.out; omega)⟩
            obtain ⟨ix, x, lz, ha, hp, -⟩ := HAT.out z (List.mem_of_getElem? hz)
            obtain ⟨gh, rfl, ca⟩ := RD1.out.at hz
            have ca2 := keep hB.out ca
            have hlen := hI.out.path_len ha hp
            have hd8 := hI.out.le ix x ha.1 ha.2.1
            have hlast := hp.last
            have hhead := path_head hp
            obtain ⟨d, hd⟩ : ∃ d, d = dep ix := ⟨_, rfl⟩
            rw [hlen, Nat.add_sub_cancel] at hlast
            rw [← hd] at hlen hd8 hlast
            have HD := Lib.hid hd
            have HP := Lib.hid (fun W (hB : Below w1.heap.size w1 W) => tpath_ok hI.out hp q t g cap W (HT1.out.below hB))
            have HDP := Lib.hid (fun W (hB : Below w1.heap.size w1 W) => tdepth_ok hI.out q t g cap ix z x W (HT1.out.below hB) ha)
            have HPA := Lib.hid (fun W (hB : Below w1.heap.size w1 W) => tparent_ok q t g cap ix z xs x W (HT1.out.below hB) hI.out.nm ha)
            have HA := Lib.hid ha
            have HZ := Lib.hid hz
            have HPP := Lib.hid hp
            have HLEN := Lib.hid hlen
            clear ha hp hz ca hd
            go_wp2_with fail
            refine (HP.out _ hB.out).mono ?_
            rintro e w3 ⟨vp, rfl, hR3, hb3⟩
            obtain ⟨Ap, cp, rfl⟩ := Kd.R_slice hR3
            rw [hlen] at hR3 ⊢
            obtain ⟨gp, rfl, cd⟩ := (RH.rd hR3).at hlast
            obtain ⟨gp', eg, cr⟩ := (RH.rd hR3).at hhead
            simp only [Option.some.injEq, Addr.mk.injEq, and_true] at eg
            subst eg
            have HR3 := Lib.hid (RH.rd hR3)
            have ca3 := keep hb3 ca2
            have HB3 := Lib.hid (below_call hB.out (Nat.le_refl _) hb3)
            clear hR3 hb3 ca2 hlast hhead hlen
            go_wp2_with fail
            refine (HDP.out _ HB3.out).mono ?_
            rintro e w4 ⟨rfl, hb4⟩
            rw [← HD.out]
            have ca4 := keep hb4 ca3
            have cd4 := keep hb4 cd
            have cr4 := keep hb4 cr
            have HR4 := Lib.hid (HR3.out.below hb4)
            have HB4 := Lib.hid (below_call HB3.out (Nat.le_refl _) hb4)
            clear hb4 ca3 cd cr
            go_wp2_with fail
            refine (HPA.out _ HB4.out).mono ?_
            rintro e w5 ⟨rfl, hb5⟩
            have ca5 := keep hb5 ca4
            have cd5 := keep hb5 cd4
            have cr5 := keep hb5 cr4
            have HR5 := Lib.hid (HR4.out.below hb5)
            have HB5 := Lib.hid (below_call HB4.out (Nat.le_refl _) hb5)
            have HRO := Lib.hid (fun W (hB : Below w1.heap.size w1 W) => troot_q q t g cap xs r W (HT1.out.below hB) HRT.out)
            rw [← HRT.out] at cr5
            clear hb5 ca4 cd4 cr4 HP HDP HPA
            have a1 : IntKind.i64.wrap ((d : Int) + 1) = (d : Int) + 1 := IntWalk.i64_in _ (by omega)
            have a2 : decide ((8 : Int) < (d : Int)) = false := decide_eq_false (by omega)
            have a3 : decide (8 < d) = false := decide_eq_false (by omega)
            have a4 : decide ((d : Int) < 0) = false := decide_eq_false (by omega)
            have c05 := (HT1.out.below HB5.out).c1
            go_wp2_with fail
            go_quiet ((go_at_call 9; exact Calls.quiet_of (HRO.out _ (by first | exact HB5.out | exact below_drewN' HB5.out _))))
            have HB6 := Lib.hid (below_drewN' HB5.out nq)
            have HR6 := Lib.hid (HR5.out.below (below_drewN' (Below.refl _ _) nq))
            have ca6 := keep (below_drewN' (Below.refl _ w5) nq) ca5
            generalize w5.drewN nq = w6 at HB6 HR6 ca6 ⊢
            clear ca5 cd5 cr5 c05 HB5 HR5
            go_wp2_with fail
            by_cases hzr : z = r
            · have b1 : (z == r) = true := by rw [beq_iff_eq]; exact hzr
              have b2 : decide (z = r) = true := decide_eq_true hzr
              clear hzr
              go_quiet ((go_at_call 9; exact Calls.quiet_of (HRO.out _ (by first | exact HB6.out | exact below_drewN' HB6.out _))))
              go_wp2_with fail
              go_roundw
              case rel => exact ⟨j + 1, by omega, by go_num, Lib.hid (below_drewN' HB6.out _)⟩
              case measure => simp [intOf] <;> omega
            · have b1 : (z == r) = false := by rw [beq_eq_false_iff_ne]; exact hzr
              have b2 : decide (z = r) = false := decide_eq_false hzr
              have hzr' : z ≠ rootH := by rw [← HRT.out]; exact hzr
              go_quiet ((go_at_call 9; exact Calls.quiet_of (HRO.out _ (by first | exact HB6.out | exact below_drewN' HB6.out _))))
              have HB7 := Lib.hid (below_drewN' HB6.out nq)
              have HR7 := Lib.hid (HR6.out.below (below_drewN' (Below.refl _ _) nq))
              have ca7 := keep (below_drewN' (Below.refl _ w6) nq) ca6
              generalize w6.drewN nq = w7 at HB7 HR7 ca7 ⊢
              obtain ⟨m, u, hm, hdm⟩ : ∃ m u, NAt 1 x.p xs m u ∧ dep ix = dep m + 1 := hI.out.up ix x (fun e => by
                subst e
                exact hzr' (hI.out.isRoot HA.out).1) HA.out.1 HA.out.2.1
              have hd1 : 1 ≤ d := by have := HD.out; omega
              obtain ⟨d0, hd0⟩ : ∃ d0, d = d0 + 1 := ⟨d - 1, by omega⟩
              have hup : lz[d0]? = some x.p := by
                have hp := HPP.out
                have hlen := HLEN.out
                cases hp with
                | root => exact absurd rfl hzr'
                | step ha' hi' hp' =>
                  rename_i i2 x2 l2
                  obtain ⟨-, rfl⟩ := nat_uniq hI.out.nm ha' HA.out
                  have h1 := hp'.last
                  simp only [List.length_append, List.length_cons, List.length_nil] at hlen
                  rw [List.getElem?_append_left (by omega), ← h1]
                  congr 1
                  omega
              obtain ⟨gq, eg, cu7⟩ := HR7.out.at hup
              simp only [Option.some.injEq, Addr.mk.injEq, and_true] at eg
              subst eg
              have HKI := Lib.hid (fun W (hB : Below w1.heap.size w1 W) => tkids_ok q t g cap x.p xs W (HT1.out.below hB) hI.out.nm m u hm)
              obtain ⟨K, hK⟩ : ∃ K, K = kidsF xs x.p := ⟨_, rfl⟩
              have hkl := kids_len hI.out.nm x.p
              have hcnt := cnt_one (kids_nodup hI.out x.p) (mem_kids.2 ⟨ix, x, HA.out, rfl⟩)
              rw [← hK] at HKI hkl hcnt
              have HCNT := Lib.hid hcnt
              have f1 : (d : Int) - 1 = (d0 : Int) := by omega
              have f2 : wrap64 ((d : Int) - 1) = (d0 : Int) := by unfold wrap64; omega
              have f3 : decide ((d : Int) < 1) = false := decide_eq_false (by omega)
              have f4 : decide (d < 1) = false := decide_eq_false (by omega)
              have hd0l : d0 < d + 1 := by omega
              clear hm hdm hup hK hcnt HR6 ca6 HB6 hzr hzr' hd0
              go_wp2_with fail
              refine (HKI.out _ HB7.out).mono ?_
              rintro e w8 ⟨vk, rfl, hR8, hb8⟩
              obtain ⟨Ak, ck, rfl⟩ := Kd.R_slice hR8
              obtain ⟨nK, hnK⟩ : ∃ n, n = K.length := ⟨_, rfl⟩
              have HNK := Lib.hid hnK
              rw [← hnK] at hR8 hkl ⊢
              have HR8 := Lib.hid (RH.rd hR8)
              have ca8 := keep hb8 ca7
              have cu8 := keep hb8 cu7
              have HB8 := Lib.hid (below_call HB7.out (Nat.le_refl _) hb8)
              clear hR8 hb8 ca7 cu7 hnK
              go_wp2_with fail
              go_loopw [19, 20] (fun cv i ww => ∃ (k cn : Nat), (k ≤ nK ∧ cn ≤ k) ∧ cv = .int .i64 cn ∧ i = .int .i64 k ∧ Hid (cn = cntL z (K.take k)) ∧ Hid (Below w8.heap.size w8 ww)) (fun _ i _ => nK - (intOf i).toNat)
              case atStart => exact ⟨0, 0, by omega, rfl, rfl, Lib.hid rfl, Lib.hid (Below.refl _ _)⟩
              case round =>
                obtain ⟨k, cn, hk, rfl, rfl, hcn, hBk⟩ := hrel
                by_cases hlk : k < nK
                · obtain ⟨a, hka⟩ : ∃ a, K[k]? = some a := ⟨_, List.getElem?_eq_getElem (by have := HNK.out; omega)⟩
                  obtain ⟨gk, rfl, ck0⟩ := HR8.out.at hka
                  have ck1 := keep hBk.out ck0
                  have ca9 := keep hBk.out ca8
                  have hst := cnt_succ (z := z) hka
                  by_cases e : a = z
                  · have g1 : (a == z) = true := by rw [beq_iff_eq]; exact e
                    have g2 : decide (a = z) = true := decide_eq_true e
                    have HST : Hid (cn + 1 = cntL z (K.take (k + 1))) := Lib.hid (by rw [hst, if_pos e, ← hcn.out])
                    clear hka ck0 hst e hcn
                    go_wp2_with fail
                    go_quiet (fail)
                    go_wp2_with fail
                    go_roundw
                    case rel => exact ⟨k + 1, cn + 1, by omega, by go_num, by go_num, HST, Lib.hid (below_drewN' hBk.out _)⟩
                    case measure => simp [intOf] <;> omega
                  · have g1 : (a == z) = false := by rw [beq_eq_false_iff_ne]; exact e
                    have g2 : decide (a = z) = false := decide_eq_false e
                    have HST : Hid (cn = cntL z (K.take (k + 1))) := Lib.hid (by rw [hst, if_neg e, ← hcn.out])
                    clear hka ck0 hst e hcn
                    go_wp2_with fail
                    go_quiet (fail)
                    go_wp2_with fail
                    go_roundw
                    case rel => exact ⟨k + 1, cn, by omega, rfl, by go_num, HST, Lib.hid (below_drewN' hBk.out _)⟩
                    case measure => simp [intOf] <;> omega
                · have hkn : K.length ≤ k := by have := HNK.out; omega
                  obtain rfl : cn = 1 := by rw [hcn.out, List.take_of_length_le hkn]; exact HCNT.out
                  have HB9 := Lib.hid (below_call HB8.out (Nat.le_refl _) hBk.out)
                  have cu9 := keep hBk.out cu8
                  clear hkn hcn cu8
                  go_wp2_with fail
                  go_roundw
                  case rel => exact ⟨j + 1, by omega, by go_num, HB9⟩
                  case measure => simp [intOf] <;> omega
          · clear hj
            have hnlt : ¬ j < nL := hlt
            by_cases h2 : nL < 2
            · have s1 : decide ((nL : Int) < 2) = true := decide_eq_true (by omega)
              have s2 : decide (nL < 2) = true := decide_eq_true h2
              have s3 : ((nL : Int) == 1) = true := by rw [beq_iff_eq]; omega
              have s4 : decide ((nL : Int) = 1) = true := decide_eq_true (by omega)
              have s5 : decide (nL = 1) = true := decide_eq_true (by omega)
              clear h2 hll hl1
              go_wp2_with fail
              refine (sure09_ok _).mono ?_
              rintro e wc ⟨rfl, hbc⟩
              have HBc := Lib.hid (below_call (below_call HB1.out (Nat.le_refl _) hB.out) (Nat.le_refl _) hbc)
              clear hbc
              go_wp2
              go_ret
              exact ⟨rfl, HBc.out⟩
            · have d3 : decide ((nL : Int) < 2) = false := decide_eq_false (by omega)
              have d3' : decide (nL < 2) = false := decide_eq_false h2
              have d4 : decide ((64 : Int) < (nL : Int)) = false := decide_eq_false (by omega)
              have d4' : decide (64 < nL) = false := decide_eq_false (by omega)
              obtain ⟨n1, hn1⟩ : ∃ n1, nL = n1 + 1 := ⟨nL - 1, by omega⟩
              have f1 : (nL : Int) - 1 = (n1 : Int) := by omega
              have f2 : wrap64 ((nL : Int) - 1) = (n1 : Int) := by unfold wrap64; omega
              obtain ⟨rr, hr1, hr2⟩ := umod a1 (n1 : Int) (by omega) (by omega)
              obtain ⟨it, hit⟩ : ∃ it, it = rr + 1 := ⟨_, rfl⟩
              have f3 : (1 : Int) + (rr : Int) = (it : Int) := by omega
              have hitl : it < nL := by omega
              obtain ⟨top, htop⟩ : ∃ top, L[it]? = some top := ⟨_, List.getElem?_eq_getElem (by have := HNL.out; omega)⟩
              obtain ⟨gh, rfl, ct⟩ := RD1.out.at htop
              have ct2 := keep hB.out ct
              obtain ⟨jt, yt, -, hat, -⟩ := HAT.out top (List.mem_of_getElem? htop)
              have htr : top ≠ rootH := by
                obtain ⟨tl, htl⟩ : ∃ tl, L = rootH :: tl := ⟨_, HL.out⟩
                have hnd := HND.out
                rw [htl, hit, List.getElem?_cons_succ] at htop
                rw [htl, List.nodup_cons] at hnd
                rintro rfl
                exact hnd.1 (List.mem_of_getElem? htop)
              have HTOP := Lib.hid hat
              have HTR := Lib.hid htr
              clear htop ct hat htr h2 hn1 hit
              go_wp2_with fail
              rw [hr1]
              clear hr1 f1 f2 f3 d3 d3' d4 d4'
              go_loopw [22, 23, 24] (fun uw uo i ww => ∃ j : Nat, j ≤ nL ∧ i = .int .i64 j ∧ Hid (RH ww w1.heap.size uw ((L.take j).filter (wiB xs (dep jt) top))) ∧ Hid (RH ww w1.heap.size uo ((L.take j).filter fun a => !wiB xs (dep jt) top a)) ∧ Hid (∀ m, uw.ownBlock = some m → uo.ownBlock = some m → False) ∧ Hid (Below w1.heap.size w1 ww)) (fun _ _ i _ => nL - (intOf i).toNat)
              case atStart => exact ⟨0, Nat.zero_le _, rfl, Lib.hid (Kd.R_nil _ _ _ _ _), Lib.hid (Kd.R_nil _ _ _ _ _), Lib.hid (fun m h => by simp [Value.ownBlock] at h), hB⟩
              case round =>
                clear hB ct2 hnlt hlt
                obtain ⟨j, hj, rfl, hW, hO, hX, hB⟩ := hrel
                obtain ⟨Aw, cw, rfl⟩ := Kd.R_slice hW.out
                obtain ⟨Ao, co, rfl⟩ := Kd.R_slice hO.out
                obtain ⟨nW, hnW⟩ : ∃ n, n = ((L.take j).filter (wiB xs (dep jt) top)).length := ⟨_, rfl⟩
                obtain ⟨nO, hnO⟩ : ∃ n, n = ((L.take j).filter fun a => !wiB xs (dep jt) top a).length := ⟨_, rfl⟩
                rw [← hnW] at hW hX ⊢
                rw [← hnO] at hO hX ⊢
                have HNW := Lib.hid (And.intro hnW hnO)
                clear hnW hnO
                by_cases hlt : j < nL
                · obtain ⟨z, hz⟩ : ∃ z, L[j]? = some z := ⟨_, List.getElem?_eq_getElem (by have := HNL.out; omega)⟩
                  obtain ⟨ix, x, -, ha, -⟩ := HAT.out z (List.mem_of_getElem? hz)
                  obtain ⟨gz, eg, cz⟩ := RD1.out.at hz
                  simp only [Option.some.injEq, Addr.mk.injEq, and_true] at eg
                  subst eg
                  have cz2 := keep hB.out cz
                  have htk : L.take (j + 1) = L.take j ++ [z] := by rw [List.take_add_one, hz]; rfl
                  have HTK := Lib.hid htk
                  have hlw : ((L.take j).filter (wiB xs (dep jt) top)).length ≤ 64 := by
                    have h1 := List.length_filter_le (wiB xs (dep jt) top) (L.take j)
                    have h2 := List.length_take_le j L
                    omega
                  have hlo : ((L.take j).filter fun a => !wiB xs (dep jt) top a).length ≤ 64 := by
                    have h1 := List.length_filter_le (fun a => !wiB xs (dep jt) top a) (L.take j)
                    have h2 := List.length_take_le j L
                    omega
                  have HLW := Lib.hid (And.intro hlw hlo)
                  clear hlw hlo
                  have HWI := Lib.hid (fun W (hB : Below w1.heap.size w1 W) => twithin_ok hI.out q t g cap ix jt z top x yt W (HT1.out.below hB) ha HTOP.out)
                  obtain ⟨bw, hbw⟩ : ∃ b, b = wiB xs (dep jt) top z := ⟨_, rfl⟩
                  rw [← hbw] at HWI
                  have HBW := Lib.hid hbw
                  clear hz ha cz htk hbw
                  go_wp2_with fail
                  refine (HWI.out _ hB.out).mono ?_
                  rintro e w3 ⟨rfl, hb3⟩
                  have HB3 := Lib.hid (below_call hB.out (Nat.le_refl _) hb3)
                  have HW3 := Lib.hid (Kd.R_below hW.out hb3)
                  have HO3 := Lib.hid (Kd.R_below hO.out hb3)
                  have cz3 := keep hb3 cz2
                  clear hb3 hB hW hO cz2
                  cases bw with
                  | true =>
                    go_wp2_with (first
                      | (at_builtin; go_loud (refine Kd.R_append (Kd.int .i64) (w0 := w1) w1.heap.size rfl (.tmp 246) (.tmp 251) 25 27 (.int .i64 0) 8 rfl Try.underlying25 infoH rfl (by decide) (by omega) (.slice Aw nW cw) ((L.take j).filter (wiB xs (dep jt) top)) z [.int .i64 z] (fun _ => True) (fun _ => False) rfl rfl rfl (fun _ hk => hk.elim) (fun _ _ => trivial) HW3.out HB3.out HB3.out.size (by have := HLW.out; omega) ?_); intro v4 w4 hR4 hB4 hg4 hat4)
                      | fail)
                    have HW4 : Hid (RH w4 w1.heap.size v4 ((L.take (j + 1)).filter (wiB xs (dep jt) top))) := Lib.hid (by rw [HTK.out, List.filter_append, List.filter_cons_of_pos (by rw [← HBW.out]), List.filter_nil]; exact hR4)
                    have HO4 : Hid (RH w4 w1.heap.size (.slice Ao nO co) ((L.take (j + 1)).filter fun a => !wiB xs (dep jt) top a)) := Lib.hid (by
                      rw [HTK.out, List.filter_append, List.filter_cons_of_neg (by rw [← HBW.out]; decide), List.filter_nil, List.append_nil]
                      exact rowH_chg HO3.out (Chg.ofGrown hg4) (fun m cs h1 _ h2 => hX.out m h2.symm h1))
                    have HX4 : Hid (∀ m, v4.ownBlock = some m → (Value.slice Ao nO co).ownBlock = some m → False) := Lib.hid (fun m h1 h2 => by
                      rcases hat4 with e | ⟨b, e, hb⟩
                      · exact hX.out m (e ▸ h1) h2
                      · have := (rowH_ty HO3.out h2).2.1
                        rw [e] at h1
                        have : b = m := by simpa using h1
                        omega)
                    have HB4 := Lib.hid hB4
                    clear hR4 hB4 hg4 hat4 hX HW3 HO3 HB3
                    go_wp2
                    go_roundw
                    case rel => exact ⟨j + 1, by omega, by go_num, HW4, HO4, HX4, HB4⟩
                    case measure => simp [intOf] <;> omega
                  | false =>
                    go_wp2_with (first
                      | (at_builtin; go_loud (refine Kd.R_append (Kd.int .i64) (w0 := w1) w1.heap.size rfl (.tmp 253) (.tmp 258) 25 27 (.int .i64 0) 8 rfl Try.underlying25 infoH rfl (by decide) (by omega) (.slice Ao nO co) ((L.take j).filter fun a => !wiB xs (dep jt) top a) z [.int .i64 z] (fun _ => True) (fun _ => False) rfl rfl rfl (fun _ hk => hk.elim) (fun _ _ => trivial) HO3.out HB3.out HB3.out.size (by have := HLW.out; omega) ?_); intro v4 w4 hR4 hB4 hg4 hat4)
                      | fail)
                    have HO4 : Hid (RH w4 w1.heap.size v4 ((L.take (j + 1)).filter fun a => !wiB xs (dep jt) top a)) := Lib.hid (by rw [HTK.out, List.filter_append, List.filter_cons_of_pos (by rw [← HBW.out]; decide), List.filter_nil]; exact hR4)
                    have HW4 : Hid (RH w4 w1.heap.size (.slice Aw nW cw) ((L.take (j + 1)).filter (wiB xs (dep jt) top))) := Lib.hid (by
                      rw [HTK.out, List.filter_append, List.filter_cons_of_neg (by rw [← HBW.out]; decide), List.filter_nil, List.append_nil]
                      exact rowH_chg HW3.out (Chg.ofGrown hg4) (fun m cs h1 _ h2 => hX.out m h1 h2.symm))
                    have HX4 : Hid (∀ m, (Value.slice Aw nW cw).ownBlock = some m → v4.ownBlock = some m → False) := Lib.hid (fun m h1 h2 => by
                      rcases hat4 with e | ⟨b, e, hb⟩
                      · exact hX.out m h1 (e ▸ h2)
                      · have := (rowH_ty HW3.out h1).2.1
                        rw [e] at h2
                        have : b = m := by simpa using h2
                        omega)
                    have HB4 := Lib.hid hB4
                    clear hR4 hB4 hg4 hat4 hX HW3 HO3 HB3
                    go_wp2
                    go_roundw
                    case rel => exact ⟨j + 1, by omega, by go_num, HW4, HO4, HX4, HB4⟩
                    case measure => simp [intOf] <;> omega
                · have hjl : L.length ≤ j := by have := HNL.out; omega
                  have eW : (L.take j).filter (wiB xs (dep jt) top) = walkF xs 8 top := by rw [List.take_of_length_le hjl, HL.out]; exact hI.out.gone_all HTOP.out
                  rw [eW] at hW
                  have HT2 := Lib.hid (HT1.out.below hB.out)
                  have HRM := Lib.hid (tremove_ok hI.out q t g cap jt top yt wr HT2.out HTOP.out HTR.out)
                  have HEO : Hid (∀ ys, DR xs (walkF xs 8 top) ys → walkF ys 8 rootH = (L.take j).filter fun a => !wiB xs (dep jt) top a) := Lib.hid (fun ys hD => by rw [List.take_of_length_le hjl, HL.out]; exact hI.out.left_all HTOP.out HTR.out hD)
                  have hlw := hI.out.walk_len 8 HTOP.out
                  have hlo : ((L.take j).filter fun a => !wiB xs (dep jt) top a).length ≤ 64 := by
                    have h1 := List.length_filter_le (fun a => !wiB xs (dep jt) top a) (L.take j)
                    have h2 := List.length_take_le j L
                    have := HNL.out
                    omega
                  have HLW := Lib.hid (And.intro hlw hlo)
                  clear eW hjl hlw hlo
                  go_wp2_with fail
                  refine HRM.out.mono ?_
                  rintro e w3 ⟨v3, ys, rfl, hR3, hT3, hD3, hC3⟩
                  have HI3 := Lib.hid (hI.out.remove HTOP.out HTR.out hD3)
                  have HE3 := Lib.hid (HEO.out ys hD3)
                  have RW3 := Lib.hid (RH.rd (rowH_chg hW.out hC3 (fun m cs _ hm => (HT2.out.hnd hm).2.2)))
                  have RO3 := Lib.hid (RH.rd (rowH_chg hO.out hC3 (fun m cs _ hm => (HT2.out.hnd hm).2.2)))
                  have RG3 := Lib.hid (RH.rd hR3)
                  obtain ⟨A3, c3, rfl⟩ := Kd.R_slice hR3
                  have HT3 := Lib.hid hT3
                  have HB3 := Lib.hid ((below_call HB1.out (Nat.le_refl _) hB.out).trans (chg_baseN hC3 (by have := HB1.out.size; have := hB.out.size; omega) HG.out))
                  clear hR3 hT3 hD3 hC3 hW hO hX hB
                  go_wp2_with fail
                  refine (same_yes _ _ _ w3 RG3.out RW3.out (by have := HLW.out; omega)).mono ?_
                  rintro e w4 ⟨rfl, hb4⟩
                  have HT4 := Lib.hid (HT3.out.below hb4)
                  have RO4 := Lib.hid (RO3.out.below hb4)
                  have HB4 := Lib.hid (below_call HB3.out (Nat.le_refl _) hb4)
                  clear hb4
                  go_wp2_with fail
                  refine (tall_any HI3.out q t g cap w4 HT4.out).mono ?_
                  rintro e w5 ⟨v5, rfl, hR5, hb5⟩
                  rw [HE3.out] at hR5
                  have RO5 := Lib.hid (RO4.out.below hb5)
                  have RA5 := Lib.hid (RH.rd hR5)
                  obtain ⟨A5, c5, rfl⟩ := Kd.R_slice hR5
                  have HB5 := Lib.hid (below_call HB4.out (Nat.le_refl _) hb5)
                  clear hR5 hb5
                  go_wp2_with fail
                  refine (same_yes _ _ _ w5 RA5.out RO5.out (by have := HLW.out; omega)).mono ?_
                  rintro e w6 ⟨rfl, hb6⟩
                  have HB6 := Lib.hid (below_call HB5.out (Nat.le_refl _) hb6)
                  clear hb6
                  go_wp2_with fail
                  refine (sure09_ok w6).mono ?_
                  rintro e w7 ⟨rfl, hb7⟩
                  have HB7 := Lib.hid (below_call HB6.out (Nat.le_refl _) hb7)
                  clear hb7
                  go_wp2
                  go_ret
                  exact ⟨rfl, HB7.out⟩

      · have d1 : decide ((k : Int) < (n : Int)) = false := decide_eq_false (by omega)
        have d1' : decide (k < n) = false := decide_eq_false hk1
        clear hk1 hlt
        go_wp2_with fail
        refine (tall_any hI.out q t g cap wr hT.out).mono ?_
        rintro e w1 ⟨v1, rfl, hR1, hb1⟩
        obtain ⟨L, hL⟩ : ∃ L, L = walkF xs 8 rootH := ⟨_, rfl⟩
        have hll := hI.out.walk_len 8 hI.out.rootAt
        have hl1 := walk_pos xs 8 rootH
        have hat := hI.out.walk_at 8 rootH 0 _ hI.out.rootAt
        have hnd := hI.out.walk_nodup 8 rootH 0 _ hI.out.rootAt
        rw [← hL] at hR1 hll hl1 hat hnd
        have HL := Lib.hid hL
        have HAT := Lib.hid hat
        have HND := Lib.hid hnd
        have hh0 : L[0]? = some rootH := by rw [hL]; rfl
        have HH0 := Lib.hid hh0
        obtain ⟨A1, c1, rfl⟩ := Kd.R_slice hR1
        obtain ⟨nL, hnL⟩ : ∃ n, n = L.length := ⟨_, rfl⟩
        have HNL := Lib.hid hnL
        rw [← hnL] at hR1 hll hl1 ⊢
        have RD1 := Lib.hid (RH.rd hR1)
        have HT1 := Lib.hid (hT.out.below hb1)
        have HB1 := Lib.hid (below_call hB.out (Nat.le_refl _) hb1)
        clear hR1 hb1 hL hat hnd hnL hh0 hT hB
        go_wp2_with fail
        go_loopw [10] (fun i ww => ∃ j : Nat, j ≤ nL ∧ i = .int .i64 j ∧ Hid (Below w1.heap.size w1 ww)) (fun i _ => nL - (intOf i).toNat)
        case atStart => exact ⟨0, Nat.zero_le _, rfl, Lib.hid (Below.refl _ _)⟩
        case round =>
          obtain ⟨j, hj, rfl, hB⟩ := hrel
          by_cases hlt : j < nL
          · obtain ⟨z, hz⟩ : ∃ z, L[j]? = some z := ⟨_, List.getElem?_eq_getElem (by have := HNL.out; omega)⟩
            obtain ⟨ix, x, lz, ha, hp, -⟩ := HAT.out z (List.mem_of_getElem? hz)
            obtain ⟨gh, rfl, ca⟩ := RD1.out.at hz
            have ca2 := keep hB.out ca
            have hlen := hI.out.path_len ha hp
            have hd8 := hI.out.le ix x ha.1 ha.2.1
            have hlast := hp.last
            have hhead := path_head hp
            obtain ⟨d, hd⟩ : ∃ d, d = dep ix := ⟨_, rfl⟩
            rw [hlen, Nat.add_sub_cancel] at hlast
            rw [← hd] at hlen hd8 hlast
            have HD := Lib.hid hd
            have HP := Lib.hid (fun W (hB : Below w1.heap.size w1 W) => tpath_ok hI.out hp q t g cap W (HT1.out.below hB))
            have HDP := Lib.hid (fun W (hB : Below w1.heap.size w1 W) => tdepth_ok hI.out q t g cap ix z x W (HT1.out.below hB) ha)
            have HPA := Lib.hid (fun W (hB : Below w1.heap.size w1 W) => tparent_ok q t g cap ix z xs x W (HT1.out.below hB) hI.out.nm ha)
            have HA := Lib.hid ha
            have HZ := Lib.hid hz
            have HPP := Lib.hid hp
            have HLEN := Lib.hid hlen
            clear ha hp hz ca hd
            go_wp2_with fail
            refine (HP.out _ hB.out).mono ?_
            rintro e w3 ⟨vp, rfl, hR3, hb3⟩
            obtain ⟨Ap, cp, rfl⟩ := Kd.R_slice hR3
            rw [hlen] at hR3 ⊢
            obtain ⟨gp, rfl, cd⟩ := (RH.rd hR3).at hlast
            obtain ⟨gp', eg, cr⟩ := (RH.rd hR3).at hhead
            simp only [Option.some.injEq, Addr.mk.injEq, and_true] at eg
            subst eg
            have HR3 := Lib.hid (RH.rd hR3)
            have ca3 := keep hb3 ca2
            have HB3 := Lib.hid (below_call hB.out (Nat.le_refl _) hb3)
            clear hR3 hb3 ca2 hlast hhead hlen
            go_wp2_with fail
            refine (HDP.out _ HB3.out).mono ?_
            rintro e w4 ⟨rfl, hb4⟩
            rw [← HD.out]
            have ca4 := keep hb4 ca3
            have cd4 := keep hb4 cd
            have cr4 := keep hb4 cr
            have HR4 := Lib.hid (HR3.out.below hb4)
            have HB4 := Lib.hid (below_call HB3.out (Nat.le_refl _) hb4)
            clear hb4 ca3 cd cr
            go_wp2_with fail
            refine (HPA.out _ HB4.out).mono ?_
            rintro e w5 ⟨rfl, hb5⟩
            have ca5 := keep hb5 ca4
            have cd5 := keep hb5 cd4
            have cr5 := keep hb5 cr4
            have HR5 := Lib.hid (HR4.out.below hb5)
            have HB5 := Lib.hid (below_call HB4.out (Nat.le_refl _) hb5)
            have HRO := Lib.hid (fun W (hB : Below w1.heap.size w1 W) => troot_q q t g cap xs r W (HT1.out.below hB) HRT.out)
            rw [← HRT.out] at cr5
            clear hb5 ca4 cd4 cr4 HP HDP HPA
            have a1 : IntKind.i64.wrap ((d : Int) + 1) = (d : Int) + 1 := IntWalk.i64_in _ (by omega)
            have a2 : decide ((8 : Int) < (d : Int)) = false := decide_eq_false (by omega)
            have a3 : decide (8 < d) = false := decide_eq_false (by omega)
            have a4 : decide ((d : Int) < 0) = false := decide_eq_false (by omega)
            have c05 := (HT1.out.below HB5.out).c1
            go_wp2_with fail
            go_quiet ((go_at_call 9; exact Calls.quiet_of (HRO.out _ (by first | exact HB5.out | exact below_drewN' HB5.out _))))
            have HB6 := Lib.hid (below_drewN' HB5.out nq)
            have HR6 := Lib.hid (HR5.out.below (below_drewN' (Below.refl _ _) nq))
            have ca6 := keep (below_drewN' (Below.refl _ w5) nq) ca5
            generalize w5.drewN nq = w6 at HB6 HR6 ca6 ⊢
            clear ca5 cd5 cr5 c05 HB5 HR5
            go_wp2_with fail
            by_cases hzr : z = r
            · have b1 : (z == r) = true := by rw [beq_iff_eq]; exact hzr
              have b2 : decide (z = r) = true := decide_eq_true hzr
              clear hzr
              go_quiet ((go_at_call 9; exact Calls.quiet_of (HRO.out _ (by first | exact HB6.out | exact below_drewN' HB6.out _))))
              go_wp2_with fail
              go_roundw
              case rel => exact ⟨j + 1, by omega, by go_num, Lib.hid (below_drewN' HB6.out _)⟩
              case measure => simp [intOf] <;> omega
            · have b1 : (z == r) = false := by rw [beq_eq_false_iff_ne]; exact hzr
              have b2 : decide (z = r) = false := decide_eq_false hzr
              have hzr' : z ≠ rootH := by rw [← HRT.out]; exact hzr
              go_quiet ((go_at_call 9; exact Calls.quiet_of (HRO.out _ (by first | exact HB6.out | exact below_drewN' HB6.out _))))
              have HB7 := Lib.hid (below_drewN' HB6.out nq)
              have HR7 := Lib.hid (HR6.out.below (below_drewN' (Below.refl _ _) nq))
              have ca7 := keep (below_drewN' (Below.refl _ w6) nq) ca6
              generalize w6.drewN nq = w7 at HB7 HR7 ca7 ⊢
              obtain ⟨m, u, hm, hdm⟩ : ∃ m u, NAt 1 x.p xs m u ∧ dep ix = dep m + 1 := hI.out.up ix x (fun e => by
                subst e
                exact hzr' (hI.out.isRoot HA.out).1) HA.out.1 HA.out.2.1
              have hd1 : 1 ≤ d := by have := HD.out; omega
              obtain ⟨d0, hd0⟩ : ∃ d0, d = d0 + 1 := ⟨d - 1, by omega⟩
              have hup : lz[d0]? = some x.p := by
                have hp := HPP.out
                have hlen := HLEN.out
                cases hp with
                | root => exact absurd rfl hzr'
                | step ha' hi' hp' =>
                  rename_i i2 x2 l2
                  obtain ⟨-, rfl⟩ := nat_uniq hI.out.nm ha' HA.out
                  have h1 := hp'.last
                  simp only [List.length_append, List.length_cons, List.length_nil] at hlen
                  rw [List.getElem?_append_left (by omega), ← h1]
                  congr 1
                  omega
              obtain ⟨gq, eg, cu7⟩ := HR7.out.at hup
              simp only [Option.some.injEq, Addr.mk.injEq, and_true] at eg
              subst eg
              have HKI := Lib.hid (fun W (hB : Below w1.heap.size w1 W) => tkids_ok q t g cap x.p xs W (HT1.out.below hB) hI.out.nm m u hm)
              obtain ⟨K, hK⟩ : ∃ K, K = kidsF xs x.p := ⟨_, rfl⟩
              have hkl := kids_len hI.out.nm x.p
              have hcnt := cnt_one (kids_nodup hI.out x.p) (mem_kids.2 ⟨ix, x, HA.out, rfl⟩)
              rw [← hK] at HKI hkl hcnt
              have HCNT := Lib.hid hcnt
              have f1 : (d : Int) - 1 = (d0 : Int) := by omega
              have f2 : wrap64 ((d : Int) - 1) = (d0 : Int) := by unfold wrap64; omega
              have f3 : decide ((d : Int) < 1) = false := decide_eq_false (by omega)
              have f4 : decide (d < 1) = false := decide_eq_false (by omega)
              have hd0l : d0 < d + 1 := by omega
              clear hm hdm hup hK hcnt HR6 ca6 HB6 hzr hzr' hd0
              go_wp2_with fail
              refine (HKI.out _ HB7.out).mono ?_
              rintro e w8 ⟨vk, rfl, hR8, hb8⟩
              obtain ⟨Ak, ck, rfl⟩ := Kd.R_slice hR8
              obtain ⟨nK, hnK⟩ : ∃ n, n = K.length := ⟨_, rfl⟩
              have HNK := Lib.hid hnK
              rw [← hnK] at hR8 hkl ⊢
              have HR8 := Lib.hid (RH.rd hR8)
              have ca8 := keep hb8 ca7
              have cu8 := keep hb8 cu7
              have HB8 := Lib.hid (below_call HB7.out (Nat.le_refl _) hb8)
              clear hR8 hb8 ca7 cu7 hnK
              go_wp2_with fail
              go_loopw [19, 20] (fun cv i ww => ∃ (k cn : Nat), (k ≤ nK ∧ cn ≤ k) ∧ cv = .int .i64 cn ∧ i = .int .i64 k ∧ Hid (cn = cntL z (K.take k)) ∧ Hid (Below w8.heap.size w8 ww)) (fun _ i _ => nK - (intOf i).toNat)
              case atStart => exact ⟨0, 0, by omega, rfl, rfl, Lib.hid rfl, Lib.hid (Below.refl _ _)⟩
              case round =>
                obtain ⟨k, cn, hk, rfl, rfl, hcn, hBk⟩ := hrel
                by_cases hlk : k < nK
                · obtain ⟨a, hka⟩ : ∃ a, K[k]? = some a := ⟨_, List.getElem?_eq_getElem (by have := HNK.out; omega)⟩
                  obtain ⟨gk, rfl, ck0⟩ := HR8.out.at hka
                  have ck1 := keep hBk.out ck0
                  have ca9 := keep hBk.out ca8
                  have hst := cnt_succ (z := z) hka
                  by_cases e : a = z
                  · have g1 : (a == z) = true := by rw [beq_iff_eq]; exact e
                    have g2 : decide (a = z) = true := decide_eq_true e
                    have HST : Hid (cn + 1 = cntL z (K.take (k + 1))) := Lib.hid (by rw [hst, if_pos e, ← hcn.out])
                    clear hka ck0 hst e hcn
                    go_wp2_with fail
                    go_quiet (fail)
                    go_wp2_with fail
                    go_roundw
                    case rel => exact ⟨k + 1, cn + 1, by omega, by go_num, by go_num, HST, Lib.hid (below_drewN' hBk.out _)⟩
                    case measure => simp [intOf] <;> omega
                  · have g1 : (a == z) = false := by rw [beq_eq_false_iff_ne]; exact e
                    have g2 : decide (a = z) = false := decide_eq_false e
                    have HST : Hid (cn = cntL z (K.take (k + 1))) := Lib.hid (by rw [hst, if_neg e, ← hcn.out])
                    clear hka ck0 hst e hcn
                    go_wp2_with fail
                    go_quiet (fail)
                    go_wp2_with fail
                    go_roundw
                    case rel => exact ⟨k + 1, cn, by omega, rfl, by go_num, HST, Lib.hid (below_drewN' hBk.out _)⟩
                    case measure => simp [intOf] <;> omega
                · have hkn : K.length ≤ k := by have := HNK.out; omega
                  obtain rfl : cn = 1 := by rw [hcn.out, List.take_of_length_le hkn]; exact HCNT.out
                  have HB9 := Lib.hid (below_call HB8.out (Nat.le_refl _) hBk.out)
                  have cu9 := keep hBk.out cu8
                  clear hkn hcn cu8
                  go_wp2_with fail
                  go_roundw
                  case rel => exact ⟨j + 1, by omega, by go_num, HB9⟩
                  case measure => simp [intOf] <;> omega
          · clear hj
            have hnlt : ¬ j < nL := hlt
            by_cases h2 : nL < 2
            · have s1 : decide ((nL : Int) < 2) = true := decide_eq_true (by omega)
              have s2 : decide (nL < 2) = true := decide_eq_true h2
              have s3 : ((nL : Int) == 1) = true := by rw [beq_iff_eq]; omega
              have s4 : decide ((nL : Int) = 1) = true := decide_eq_true (by omega)
              have s5 : decide (nL = 1) = true := decide_eq_true (by omega)
              clear h2 hll hl1
              go_wp2_with fail
              refine (sure09_ok _).mono ?_
              rintro e wc ⟨rfl, hbc⟩
              have HBc := Lib.hid (below_call (below_call HB1.out (Nat.le_refl _) hB.out) (Nat.le_refl _) hbc)
              clear hbc
              go_wp2
              go_ret
              exact ⟨rfl, HBc.out⟩
            · have d3 : decide ((nL : Int) < 2) = false := decide_eq_false (by omega)
              have d3' : decide (nL < 2) = false := decide_eq_false h2
              have d4 : decide ((64 : Int) < (nL : Int)) = false := decide_eq_false (by omega)
              have d4' : decide (64 < nL) = false := decide_eq_false (by omega)
              obtain ⟨n1, hn1⟩ : ∃ n1, nL = n1 + 1 := ⟨nL - 1, by omega⟩
              have f1 : (nL : Int) - 1 = (n1 : Int) := by omega
              have f2 : wrap64 ((nL : Int) - 1) = (n1 : Int) := by unfold wrap64; omega
              obtain ⟨rr, hr1, hr2⟩ := umod a1 (n1 : Int) (by omega) (by omega)
              obtain ⟨it, hit⟩ : ∃ it, it = rr + 1 := ⟨_, rfl⟩
              have f3 : (1 : Int) + (rr : Int) = (it : Int) := by omega
              have hitl : it < nL := by omega
              obtain ⟨top, htop⟩ : ∃ top, L[it]? = some top := ⟨_, List.getElem?_eq_getElem (by have := HNL.out; omega)⟩
              obtain ⟨gh, rfl, ct⟩ := RD1.out.at htop
              have ct2 := keep hB.out ct
              obtain ⟨jt, yt, -, hat, -⟩ := HAT.out top (List.mem_of_getElem? htop)
              have htr : top ≠ rootH := by
                obtain ⟨tl, htl⟩ : ∃ tl, L = rootH :: tl := ⟨_, HL.out⟩
                have hnd := HND.out
                rw [htl, hit, List.getElem?_cons_succ] at htop
                rw [htl, List.nodup_cons] at hnd
                rintro rfl
                exact hnd.1 (List.mem_of_getElem? htop)
              have HTOP := Lib.hid hat
              have HTR := Lib.hid htr
              clear htop ct hat htr h2 hn1 hit
              go_wp2_with fail
              rw [hr1]
              clear hr1 f1 f2 f3 d3 d3' d4 d4'
              go_loopw [22, 23, 24] (fun uw uo i ww => ∃ j : Nat, j ≤ nL ∧ i = .int .i64 j ∧ Hid (RH ww w1.heap.size uw ((L.take j).filter (wiB xs (dep jt) top))) ∧ Hid (RH ww w1.heap.size uo ((L.take j).filter fun a => !wiB xs (dep jt) top a)) ∧ Hid (∀ m, uw.ownBlock = some m → uo.ownBlock = some m → False) ∧ Hid (Below w1.heap.size w1 ww)) (fun _ _ i _ => nL - (intOf i).toNat)
              case atStart => exact ⟨0, Nat.zero_le _, rfl, Lib.hid (Kd.R_nil _ _ _ _ _), Lib.hid (Kd.R_nil _ _ _ _ _), Lib.hid (fun m h => by simp [Value.ownBlock] at h), hB⟩
              case round =>
                clear hB ct2 hnlt hlt
                obtain ⟨j, hj, rfl, hW, hO, hX, hB⟩ := hrel
                obtain ⟨Aw, cw, rfl⟩ := Kd.R_slice hW.out
                obtain ⟨Ao, co, rfl⟩ := Kd.R_slice hO.out
                obtain ⟨nW, hnW⟩ : ∃ n, n = ((L.take j).filter (wiB xs (dep jt) top)).length := ⟨_, rfl⟩
                obtain ⟨nO, hnO⟩ : ∃ n, n = ((L.take j).filter fun a => !wiB xs (dep jt) top a).length := ⟨_, rfl⟩
                rw [← hnW] at hW hX ⊢
                rw [← hnO] at hO hX ⊢
                have HNW := Lib.hid (And.intro hnW hnO)
                clear hnW hnO
                by_cases hlt : j < nL
                · obtain ⟨z, hz⟩ : ∃ z, L[j]? = some z := ⟨_, List.getElem?_eq_getElem (by have := HNL.out; omega)⟩
                  obtain ⟨ix, x, -, ha, -⟩ := HAT.out z (List.mem_of_getElem? hz)
                  obtain ⟨gz, eg, cz⟩ := RD1.out.at hz
                  simp only [Option.some.injEq, Addr.mk.injEq, and_true] at eg
                  subst eg
                  have cz2 := keep hB.out cz
                  have htk : L.take (j + 1) = L.take j ++ [z] := by rw [List.take_add_one, hz]; rfl
                  have HTK := Lib.hid htk
                  have hlw : ((L.take j).filter (wiB xs (dep jt) top)).length ≤ 64 := by
                    have h1 := List.length_filter_le (wiB xs (dep jt) top) (L.take j)
                    have h2 := List.length_take_le j L
                    omega
                  have hlo : ((L.take j).filter fun a => !wiB xs (dep jt) top a).length ≤ 64 := by
                    have h1 := List.length_filter_le (fun a => !wiB xs (dep jt) top a) (L.take j)
                    have h2 := List.length_take_le j L
                    omega
                  have HLW := Lib.hid (And.intro hlw hlo)
                  clear hlw hlo
                  have HWI := Lib.hid (fun W (hB : Below w1.heap.size w1 W) => twithin_ok hI.out q t g cap ix jt z top x yt W (HT1.out.below hB) ha HTOP.out)
                  obtain ⟨bw, hbw⟩ : ∃ b, b = wiB xs (dep jt) top z := ⟨_, rfl⟩
                  rw [← hbw] at HWI
                  have HBW := Lib.hid hbw
                  clear hz ha cz htk hbw
                  go_wp2_with fail
                  refine (HWI.out _ hB.out).mono ?_
                  rintro e w3 ⟨rfl, hb3⟩
                  have HB3 := Lib.hid (below_call hB.out (Nat.le_refl _) hb3)
                  have HW3 := Lib.hid (Kd.R_below hW.out hb3)
                  have HO3 := Lib.hid (Kd.R_below hO.out hb3)
                  have cz3 := keep hb3 cz2
                  clear hb3 hB hW hO cz2
                  cases bw with
                  | true =>
                    go_wp2_with (first
                      | (at_builtin; go_loud (refine Kd.R_append (Kd.int .i64) (w0 := w1) w1.heap.size rfl (.tmp 246) (.tmp 251) 25 27 (.int .i64 0) 8 rfl Try.underlying25 infoH rfl (by decide) (by omega) (.slice Aw nW cw) ((L.take j).filter (wiB xs (dep jt) top)) z [.int .i64 z] (fun _ => True) (fun _ => False) rfl rfl rfl (fun _ hk => hk.elim) (fun _ _ => trivial) HW3.out HB3.out HB3.out.size (by have := HLW.out; omega) ?_); intro v4 w4 hR4 hB4 hg4 hat4)
                      | fail)
                    have HW4 : Hid (RH w4 w1.heap.size v4 ((L.take (j + 1)).filter (wiB xs (dep jt) top))) := Lib.hid (by rw [HTK.out, List.filter_append, List.filter_cons_of_pos (by rw [← HBW.out]), List.filter_nil]; exact hR4)
                    have HO4 : Hid (RH w4 w1.heap.size (.slice Ao nO co) ((L.take (j + 1)).filter fun a => !wiB xs (dep jt) top a)) := Lib.hid (by
                      rw [HTK.out, List.filter_append, List.filter_cons_of_neg (by rw [← HBW.out]; decide), List.filter_nil, List.append_nil]
                      exact rowH_chg HO3.out (Chg.ofGrown hg4) (fun m cs h1 _ h2 => hX.out m h2.symm h1))
                    have HX4 : Hid (∀ m, v4.ownBlock = some m → (Value.slice Ao nO co).ownBlock = some m → False) := Lib.hid (fun m h1 h2 => by
                      rcases hat4 with e | ⟨b, e, hb⟩
                      · exact hX.out m (e ▸ h1) h2
                      · have := (rowH_ty HO3.out h2).2.1
                        rw [e] at h1
                        have : b = m := by simpa using h1
                        omega)
                    have HB4 := Lib.hid hB4
                    clear hR4 hB4 hg4 hat4 hX HW3 HO3 HB3
                    go_wp2
                    go_roundw
                    case rel => exact ⟨j + 1, by omega, by go_num, HW4, HO4, HX4, HB4⟩
                    case measure => simp [intOf] <;> omega
                  | false =>
                    go_wp2_with (first
                      | (at_builtin; go_loud (refine Kd.R_append (Kd.int .i64) (w0 := w1) w1.heap.size rfl (.tmp 253) (.tmp 258) 25 27 (.int .i64 0) 8 rfl Try.underlying25 infoH rfl (by decide) (by omega) (.slice Ao nO co) ((L.take j).filter fun a => !wiB xs (dep jt) top a) z [.int .i64 z] (fun _ => True) (fun _ => False) rfl rfl rfl (fun _ hk => hk.elim) (fun _ _ => trivial) HO3.out HB3.out HB3.out.size (by have := HLW.out; omega) ?_); intro v4 w4 hR4 hB4 hg4 hat4)
                      | fail)
                    have HO4 : Hid (RH w4 w1.heap.size v4 ((L.take (j + 1)).filter fun a => !wiB xs (dep jt) top a)) := Lib.hid (by rw [HTK.out, List.filter_append, List.filter_cons_of_pos (by rw [← HBW.out]; decide), List.filter_nil]; exact hR4)
                    have HW4 : Hid (RH w4 w1.heap.size (.slice Aw nW cw) ((L.take (j + 1)).filter (wiB xs (dep jt) top))) := Lib.hid (by
                      rw [HTK.out, List.filter_append, List.filter_cons_of_neg (by rw [← HBW.out]; decide), List.filter_nil, List.append_nil]
                      exact rowH_chg HW3.out (Chg.ofGrown hg4) (fun m cs h1 _ h2 => hX.out m h1 h2.symm))
                    have HX4 : Hid (∀ m, (Value.slice Aw nW cw).ownBlock = some m → v4.ownBlock = some m → False) := Lib.hid (fun m h1 h2 => by
                      rcases hat4 with e | ⟨b, e, hb⟩
                      · exact hX.out m h1 (e ▸ h2)
                      · have := (rowH_ty HW3.out h1).2.1
                        rw [e] at h2
                        have : b = m := by simpa using h2
                        omega)
                    have HB4 := Lib.hid hB4
                    clear hR4 hB4 hg4 hat4 hX HW3 HO3 HB3
                    go_wp2
                    go_roundw
                    case rel => exact ⟨j + 1, by omega, by go_num, HW4, HO4, HX4, HB4⟩
                    case measure => simp [intOf] <;> omega
                · have hjl : L.length ≤ j := by have := HNL.out; omega
                  have eW : (L.take j).filter (wiB xs (dep jt) top) = walkF xs 8 top := by rw [List.take_of_length_le hjl, HL.out]; exact hI.out.gone_all HTOP.out
                  rw [eW] at hW
                  have HT2 := Lib.hid (HT1.out.below hB.out)
                  have HRM := Lib.hid (tremove_ok hI.out q t g cap jt top yt wr HT2.out HTOP.out HTR.out)
                  have HEO : Hid (∀ ys, DR xs (walkF xs 8 top) ys → walkF ys 8 rootH = (L.take j).filter fun a => !wiB xs (dep jt) top a) := Lib.hid (fun ys hD => by rw [List.take_of_length_le hjl, HL.out]; exact hI.out.left_all HTOP.out HTR.out hD)
                  have hlw := hI.out.walk_len 8 HTOP.out
                  have hlo : ((L.take j).filter fun a => !wiB xs (dep jt) top a).length ≤ 64 := by
                    have h1 := List.length_filter_le (fun a => !wiB xs (dep jt) top a) (L.take j)
                    have h2 := List.length_take_le j L
                    have := HNL.out
                    omega
                  have HLW := Lib.hid (And.intro hlw hlo)
                  clear eW hjl hlw hlo
                  go_wp2_with fail
                  refine HRM.out.mono ?_
                  rintro e w3 ⟨v3, ys, rfl, hR3, hT3, hD3, hC3⟩
                  have HI3 := Lib.hid (hI.out.remove HTOP.out HTR.out hD3)
                  have HE3 := Lib.hid (HEO.out ys hD3)
                  have RW3 := Lib.hid (RH.rd (rowH_chg hW.out hC3 (fun m cs _ hm => (HT2.out.hnd hm).2.2)))
                  have RO3 := Lib.hid (RH.rd (rowH_chg hO.out hC3 (fun m cs _ hm => (HT2.out.hnd hm).2.2)))
                  have RG3 := Lib.hid (RH.rd hR3)
                  obtain ⟨A3, c3, rfl⟩ := Kd.R_slice hR3
                  have HT3 := Lib.hid hT3
                  have HB3 := Lib.hid ((below_call HB1.out (Nat.le_refl _) hB.out).trans (chg_baseN hC3 (by have := HB1.out.size; have := hB.out.size; omega) HG.out))
                  clear hR3 hT3 hD3 hC3 hW hO hX hB
                  go_wp2_with fail
                  refine (same_yes _ _ _ w3 RG3.out RW3.out (by have := HLW.out; omega)).mono ?_
                  rintro e w4 ⟨rfl, hb4⟩
                  have HT4 := Lib.hid (HT3.out.below hb4)
                  have RO4 := Lib.hid (RO3.out.below hb4)
                  have HB4 := Lib.hid (below_call HB3.out (Nat.le_refl _) hb4)
                  clear hb4
                  go_wp2_with fail
                  refine (tall_any HI3.out q t g cap w4 HT4.out).mono ?_
                  rintro e w5 ⟨v5, rfl, hR5, hb5⟩
                  rw [HE3.out] at hR5
                  have RO5 := Lib.hid (RO4.out.below hb5)
                  have RA5 := Lib.hid (RH.rd hR5)
                  obtain ⟨A5, c5, rfl⟩ := Kd.R_slice hR5
                  have HB5 := Lib.hid (below_call HB4.out (Nat.le_refl _) hb5)
                  clear hR5 hb5
                  go_wp2_with fail
                  refine (same_yes _ _ _ w5 RA5.out RO5.out (by have := HLW.out; omega)).mono ?_
                  rintro e w6 ⟨rfl, hb6⟩
                  have HB6 := Lib.hid (below_call HB5.out (Nat.le_refl _) hb6)
                  clear hb6
                  go_wp2_with fail
                  refine (sure09_ok w6).mono ?_
                  rintro e w7 ⟨rfl, hb7⟩
                  have HB7 := Lib.hid (below_call HB6.out (Nat.le_refl _) hb7)
                  clear hb7
                  go_wp2
                  go_ret
                  exact ⟨rfl, HB7.out⟩

theorem twhole_rd {a : Option Addr} {n c : Nat} (a1 : Int) {w : World} (h0 : Rd22 w [.slice a n c]) :
    Calls Try.prog 4 #[.slice a n c, .int .i64 a1] w fun e w' => e = .returned (.bool true) ∧ Below w.heap.size w w' := by
  obtain ⟨h, -, hn⟩ := op3_of_rd h0
  exact twhole_ok a n c a1 w h hn

end Go.Proofs.Ytgjlkplieoajlaa
