/- The law SlotsOnce, by contract. -/
import Derived.Test.YtgjlkplieoajlaaDoorSo1
import Derived.Test.YtgjlkplieoajlaaDoorSlk
set_option linter.unusedVariables false
set_option linter.unusedSimpArgs false
namespace Go.Proofs.YtgjlkplieoajlaaDoor
open Go.RowKit
open Go.Proofs.YtgjlkplieoajlaaDoorW.PrintWords (Kd Drawn0 Kept rd rdOf)
open Go.Proofs.YtgjlkplieoajlaaDoor.PSlotsTwins
set_option maxRecDepth 100000

/-- What the loop holds, in memory. -/
structure OnceM (w wr : World) (t g n cap B k : Nat) (vg vd : Value) (xs : List Sl) (G D : List Int) : Prop where
  tb : TB wr t g n cap 1 xs
  rg : (Kd.int .i64).R 39 wr B (fun k => vg.ownBlock = some k) vg G
  rd : (Kd.int .i64).R 39 wr B (fun k => vd.ownBlock = some k) vd D
  ne : ∀ k, vg.ownBlock = some k → ¬ vd.ownBlock = some k
  la : Laid wr
  be : Below w.heap.size w wr
  sz : B ≤ wr.heap.size
  lg : G.length ≤ k
  ld : D.length ≤ k
/-- What is fixed of the places. -/
structure OnceP (w : World) (t g B : Nat) : Prop where
  tB : t < B
  gB : g < B
  eB : 0 < B
  eg : 0 < g
  wB : w.heap.size ≤ B
  wg : w.heap.size ≤ g

section
variable {w wr W : World} {t g n cap B k : Nat} {vg vd : Value} {xs ys : List Sl} {G D : List Int}
theorem OnceM.chgT (h : OnceM w wr t g n cap B k vg vd xs G D) (P : OnceP w t g B) (hT : TB W t g n cap 1 ys) (hc : Chg (fun k => k = g) wr W) : OnceM w W t g n cap B k vg vd ys G D :=
  ⟨hT, Kd.R_step h.rg (fun k' hk' hlt => hc.block k' hlt (fun e => by have := Kd.R_base h.rg k' hk'; have := P.gB; have e' : k' = g := e; omega)),
   Kd.R_step h.rd (fun k' hk' hlt => hc.block k' hlt (fun e => by have := Kd.R_base h.rd k' hk'; have := P.gB; have e' : k' = g := e; omega)), h.ne,
   h.la.chg hc (fun e => by have := P.eg; have e' : 0 = g := e; omega),
   h.be.trans (hc.below h.be.size (fun k' hk' => by have := P.wg; have e' : k' = g := hk'; omega)), Nat.le_trans h.sz hc.size, h.lg, h.ld⟩
theorem OnceM.below (h : OnceM w wr t g n cap B k vg vd xs G D) (hb : Below wr.heap.size wr W) : OnceM w W t g n cap B k vg vd xs G D :=
  ⟨h.tb.below hb, Kd.R_below h.rg hb, Kd.R_below h.rd hb, h.ne, h.la.below hb, below_call h.be (Nat.le_refl _) hb, Nat.le_trans h.sz hb.size, h.lg, h.ld⟩
theorem OnceM.later (h : OnceM w wr t g n cap B k vg vd xs G D) {k' : Nat} (hk : k ≤ k') : OnceM w wr t g n cap B k' vg vd xs G D :=
  ⟨h.tb, h.rg, h.rd, h.ne, h.la, h.be, h.sz, Nat.le_trans h.lg hk, Nat.le_trans h.ld hk⟩
theorem OnceM.okD (h : OnceM w wr t g n cap B k vg vd xs G D) : (Kd.int .i64).R 39 wr B (fun k => ¬ vg.ownBlock = some k) vd D := Kd.R_mono h.rd (fun k hk hg => h.ne k hg hk)
theorem OnceM.okG (h : OnceM w wr t g n cap B k vg vd xs G D) : (Kd.int .i64).R 39 wr B (fun k => ¬ vd.ownBlock = some k) vg G := Kd.R_mono h.rg (fun k hk hd => h.ne k hk hd)
theorem OnceM.newD (h : OnceM w wr t g n cap B k vg vd xs G D) : ∀ k, wr.heap.size ≤ k → ¬ vg.ownBlock = some k := fun k hk hg => by have := Kd.R_lt h.rg k hg; omega
theorem OnceM.newG (h : OnceM w wr t g n cap B k vg vd xs G D) : ∀ k, wr.heap.size ≤ k → ¬ vd.ownBlock = some k := fun k hk hg => by have := Kd.R_lt h.rd k hg; omega
theorem OnceM.growD (h : OnceM w wr t g n cap B k vg vd xs G D) (P : OnceP w t g B) {v1 : Value} {x : Int} (hR : (Kd.int .i64).R 39 W B (fun k => ¬ vg.ownBlock = some k) v1 (D ++ [x])) (hg : wr.grownBy W vd.ownBlock) : OnceM w W t g n cap B (k + 1) vg v1 xs G (D ++ [x]) := by
  have hc := Chg.ofGrown hg
  have hb : ∀ k', some k' = vd.ownBlock → B ≤ k' := fun k' e => Kd.R_base h.rd k' e.symm
  refine ⟨h.tb.chg hc (fun e => by have := hb _ e; have := P.tB; omega) (fun e => by have := hb _ e; have := P.gB; omega), Kd.R_grown h.rg hg (fun k' hk' e => h.ne k' hk' e.symm), Kd.R_of_own (Kd.own_of_R hR) (fun _ e => e), fun k' hk' e => hR.1 k' e hk',
    h.la.chg hc (fun e => by have := hb _ e; have := P.eB; omega), h.be.trans (hc.below h.be.size (fun k' e => by have := hb _ e; have := P.wB; omega)), Nat.le_trans h.sz hc.size, by have := h.lg; omega, by have := h.ld; simp; omega⟩
theorem OnceM.growG (h : OnceM w wr t g n cap B k vg vd xs G D) (P : OnceP w t g B) {v1 : Value} {x : Int} (hR : (Kd.int .i64).R 39 W B (fun k => ¬ vd.ownBlock = some k) v1 (G ++ [x])) (hg : wr.grownBy W vg.ownBlock) : OnceM w W t g n cap B (k + 1) v1 vd xs (G ++ [x]) D := by
  have hc := Chg.ofGrown hg
  have hb : ∀ k', some k' = vg.ownBlock → B ≤ k' := fun k' e => Kd.R_base h.rg k' e.symm
  refine ⟨h.tb.chg hc (fun e => by have := hb _ e; have := P.tB; omega) (fun e => by have := hb _ e; have := P.gB; omega), Kd.R_of_own (Kd.own_of_R hR) (fun _ e => e), Kd.R_grown h.rd hg (fun k' hk' e => h.ne k' e.symm hk'), fun k' hk' e => hR.1 k' hk' e,
    h.la.chg hc (fun e => by have := hb _ e; have := P.eB; omega), h.be.trans (hc.below h.be.size (fun k' e => by have := hb _ e; have := P.wB; omega)), Nat.le_trans h.sz hc.size, by have := h.lg; simp; omega, by have := h.ld; omega⟩
end

set_option maxHeartbeats 2000000 in
theorem once_ok (many : Int) (al : Option Addr) (len lcap : Nat) (w : World) (hm : len ≤ maxLen)
    (hc : len = 0 ∨ ∃ b o, al = some ⟨b, o, none⟩ ∧ ∀ i, i < len → ∃ x0 x1 x2 : Int, w.cell? ⟨b, o + i * 3, none⟩ = some (.int .i64 x0) ∧ w.cell? ⟨b, o + i * 3 + 1, none⟩ = some (.int .i64 x1) ∧ w.cell? ⟨b, o + i * 3 + 2, none⟩ = some (.int .i64 x2)) (hL : Laid w) :
    Calls Tryd.prog 4 #[.int .i64 many, .slice al len lcap] w fun e w' => e = .returned (.bool true) ∧ Below w.heap.size w w' := by
  unfold maxLen at hm
  have HCC := Lib.hid hc
  have HL := Lib.hid hL
  have HE := Laid.lt hL
  clear hc hL
  by_cases hv : 1 ≤ many ∧ many ≤ 4096
  · obtain ⟨n0, n1⟩ := hv
    obtain ⟨n, rfl⟩ : ∃ n : Nat, many = n := ⟨many.toNat, by omega⟩
    have t3 : decide ((n : Int) < 1) = false := decide_eq_false (by omega)
    have t4 : decide ((4096 : Int) < n) = false := decide_eq_false (by omega)
    go_enter Tryd.func4, Tryd.ntmps4
    go_wp2_with fail
    refine (snew_ok 1 n w (by omega) (by omega) (by omega) (by omega)).mono ?_
    rintro e w1 ⟨t, g, cap, rfl, hT, ht, hg, hb⟩
    have htl := hT.lt
    have hgl := hT.ltg
    have HI := Lib.hid (show OnceM w w1 t g n cap w1.heap.size 0 (.slice none 0 0) (.slice none 0 0) (List.replicate n oneSl) [] [] from ⟨hT, Kd.R_nil _ _ _ _ _, Kd.R_nil _ _ _ _ _, fun k h => by simp [Value.ownBlock] at h, HL.out.below hb, hb, Nat.le_refl _, Nat.le_refl _, Nat.le_refl _⟩)
    have HPL := Lib.hid (show OnceP w t g w1.heap.size from ⟨htl, hgl, by have := hb.size; omega, by omega, hb.size, hg⟩)
    have hs1 := hb.size
    clear hT hb HL
    go_wp2_with fail
    go_loopw [7, 8, 9] (fun vg vd i wr => ∃ k : Nat, k ≤ len ∧ k ≤ 200 ∧ i = .int .i64 k ∧ Hid (∃ xs G D, OnceM w wr t g n cap w1.heap.size k vg vd xs G D ∧ OI n xs G D)) (fun _ _ i _ => len - (intOf i).toNat)
    case atStart => exact ⟨0, Nat.zero_le _, Nat.zero_le _, rfl, Lib.hid ⟨_, _, _, HI.out, OI.start (by omega) (by omega)⟩⟩
    case round =>
      clear HI
      obtain ⟨k, hk, hk2, rfl, hI⟩ := hrel
      obtain ⟨xs, G, D, hJ, hO⟩ := hI.out
      have HOI := Lib.hid hO
      obtain ⟨Ag, cg, rfl⟩ := Kd.R_slice hJ.rg
      obtain ⟨Ad, cd, rfl⟩ := Kd.R_slice hJ.rd
      have HJ := Lib.hid hJ
      clear hJ hI hO
      by_cases hlt : k < len ∧ k < 200
      · obtain ⟨hl1, hl2⟩ := hlt
        rcases HCC.out with h0 | ⟨lb, lo, rfl, hcells⟩
        · omega
        obtain ⟨kd, h, v, q0, q1, q2⟩ := hcells k hl1
        replace q0 := keep HJ.out.be q0
        replace q1 := keep HJ.out.be q1
        replace q2 := keep HJ.out.be q2
        clear hcells
        obtain ⟨m, hm'⟩ : ∃ m, m = G.length := ⟨_, rfl⟩
        obtain ⟨p, hp'⟩ : ∃ p, p = D.length := ⟨_, rfl⟩
        have hmk : m ≤ k := by rw [hm']; exact HJ.out.lg
        have hpk : p ≤ k := by rw [hp']; exact HJ.out.ld
        rw [← hm', ← hp']
        have HM := Lib.hid hm'
        have HP := Lib.hid hp'
        clear hm' hp'
        by_cases hd : kd = 3 ∧ 0 < m
        · obtain ⟨rfl, hgl0⟩ := hd
          obtain ⟨j, hj⟩ : ∃ j : Nat, (j : Int) = (IntKind.u64.wrap v).tmod m := ⟨((IntKind.u64.wrap v).tmod m).toNat, by
            have := Int.tmod_nonneg (m : Int) (show 0 ≤ IntKind.u64.wrap v by rw [show IntKind.u64.wrap v = v % 18446744073709551616 by simp [IntKind.wrap, IntKind.bits, IntKind.signed]]; omega)
            omega⟩
          have hjm : j < m := by
            have := Int.tmod_lt_of_pos (IntKind.u64.wrap v) (show (0 : Int) < m by omega)
            omega
          have e1 : IntKind.u64.wrap (m : Int) = m := by simp [IntKind.wrap, IntKind.bits, IntKind.signed]; omega
          have e0 : ((m : Int) == 0) = false := by simp; omega
          have e2 : wrap64 ((IntKind.u64.wrap v).tmod m) = (j : Int) := by rw [← hj]; unfold wrap64; omega
          clear hj
          obtain ⟨gg, cg', eg, -⟩ := Kd.R_form HJ.out.rg (by rw [← HM.out]; omega)
          simp only [Value.slice.injEq, true_and] at eg
          obtain ⟨rfl, rfl⟩ := eg
          obtain ⟨hh, hhj⟩ : ∃ hh, G[j]? = some hh := ⟨G[j]'(by rw [← HM.out]; omega), List.getElem?_eq_getElem _⟩
          have cg0 : wr.cell? ⟨gg, j, none⟩ = some (.int .i64 hh) := int_cell HJ.out.rg hhj
          clear hhj
          rcases at_or 1 hh xs with ⟨ii, xx, ha⟩ | ha
          · have HA := Lib.hid ha
            clear ha
            go_wp2_with fail
            refine (drop_hit t g n cap ii 1 hh xs xx wr HJ.out.tb HOI.out.tk HA.out).mono ?_
            rintro e w5 ⟨rfl, hT5, hc5⟩
            have HO5 := Lib.hid (HOI.out.drop HA.out)
            have HJ5 := Lib.hid (HJ.out.chgT HPL.out hT5 hc5)
            have cg1 : w5.cell? ⟨gg, j, none⟩ = some (.int .i64 hh) := keepc hc5 (fun e => by have := Kd.R_base HJ.out.rg gg rfl; have e' : gg = g := e; omega) cg0
            clear hT5 hc5 q0 q1 q2 cg0 HOI HA HJ
            go_wp2_with (first
              | (at_builtin; refine Kd.R_append (Kd.int .i64) (w0 := w5) w1.heap.size rfl (.tmp 92) (.tmp 97) 38 39 (.int .i64 0) 8 rfl Tryd.underlying38 info39 rfl (by decide) (by omega) (.slice Ad p cd) D hh [.int .i64 hh] _ (fun _ => False) rfl rfl rfl (fun _ hk => hk.elim) HJ5.out.newD (by rw [HP.out]; exact HJ5.out.okD) (Below.refl _ _) HJ5.out.sz (by rw [← HP.out]; omega) ?_; intro v1 w6 hR6 hB6 hg6 hat6)
              | fail)
            have HJ6 := Lib.hid (HJ5.out.growD HPL.out hR6 (by rw [← HP.out]; exact hg6))
            clear hR6 hB6 hg6 hat6 HJ5 cg1
            go_wp2
            go_roundw
            case rel => exact ⟨k + 1, by omega, by omega, by go_num, Lib.hid ⟨_, _, _, by rw [HM.out]; exact HJ6.out, HO5.out⟩⟩
            case measure => simp [intOf]; omega
          · have HA := Lib.hid (drop_miss t g n cap 1 hh xs wr HJ.out.tb HOI.out.tk ha)
            clear ha
            go_wp2_with fail
            refine HA.out.mono ?_
            rintro e w5 ⟨rfl, d5, hw5⟩
            have HJ5 := Lib.hid (show OnceM w w5 t g n cap w1.heap.size (k + 1) _ _ xs G D by rw [hw5]; exact (HJ.out.below (below_drewN' (Below.refl _ wr) d5)).later (by omega))
            clear hw5 HA HJ q0 q1 q2 cg0
            go_wp2
            go_roundw
            case rel => exact ⟨k + 1, by omega, by omega, by go_num, Lib.hid ⟨_, _, _, by rw [HM.out, HP.out]; exact HJ5.out, HOI.out⟩⟩
            case measure => simp [intOf]; omega
        · have htest : (kd == 3) = false ∨ (kd = 3 ∧ decide (0 < m) = false ∧ decide ((0 : Int) < m) = false) := by
            by_cases h : kd = 3
            · exact .inr ⟨h, decide_eq_false (by omega), decide_eq_false (by omega)⟩
            · exact .inl (by simpa using h)
          clear hd
          rcases htest with u1 | ⟨rfl, u1, u2⟩
          all_goals
            rcases first_free xs with ⟨ii, xx, hx, hf, hfirst⟩ | hnone
            · have HX := Lib.hid hx
              have HF := Lib.hid hf
              have HFI := Lib.hid hfirst
              clear hx hf hfirst
              go_wp2_with fail
              refine (add_hit t g n cap ii 1 v xs xx wr HJ.out.tb HOI.out.tk HX.out HF.out HFI.out).mono ?_
              rintro e w5 ⟨rfl, hT5, hc5⟩
              have HO5 := Lib.hid (HOI.out.new HX.out HF.out v)
              have HJ5 := Lib.hid (HJ.out.chgT HPL.out hT5 hc5)
              obtain ⟨hh, hhe⟩ : ∃ hh, hh = mk 1 ii xx.f0 := ⟨_, rfl⟩
              rw [← hhe]
              rw [← hhe] at HO5
              clear hT5 hc5 q0 q1 q2 HOI HX HF HFI HJ hhe
              go_wp2
              go_loop [13] (fun u => ∃ q : Nat, q ≤ m ∧ u = .int .i64 q) (fun u => m - (intOf u).toNat)
              case atStart => exact ⟨0, Nat.zero_le _, rfl⟩
              case round =>
                obtain ⟨q, hq, rfl⟩ := hrel
                by_cases hqm : q < m
                · obtain ⟨gg, cg', eg, -⟩ := Kd.R_form HJ5.out.rg (by rw [← HM.out]; omega)
                  simp only [Value.slice.injEq, true_and] at eg
                  obtain ⟨rfl, rfl⟩ := eg
                  obtain ⟨gq, hgq⟩ : ∃ gq, G[q]? = some gq := ⟨G[q]'(by rw [← HM.out]; omega), List.getElem?_eq_getElem _⟩
                  have cg0 : w5.cell? ⟨gg, q, none⟩ = some (.int .i64 gq) := int_cell HJ5.out.rg hgq
                  have hne : (gq == hh) = false := by
                    have : gq ≠ hh := fun e => HO5.out.1 (by rw [← e]; exact List.mem_of_getElem? hgq)
                    simpa using this
                  clear hgq
                  go_wp2
                  go_round
                  case rel => exact ⟨q + 1, by omega, by go_num⟩
                  case measure => simp [intOf]; omega
                · go_wp2_with (first
                    | (at_builtin; refine Kd.R_append (Kd.int .i64) (w0 := w5) w1.heap.size rfl (.tmp 123) (.tmp 125) 38 39 (.int .i64 0) 8 rfl Tryd.underlying38 info39 rfl (by decide) (by omega) (.slice Ag m cg) G hh [.int .i64 hh] _ (fun _ => False) rfl rfl rfl (fun _ hk => hk.elim) HJ5.out.newG (by rw [HM.out]; exact HJ5.out.okG) (Below.refl _ _) HJ5.out.sz (by rw [← HM.out]; omega) ?_; intro v1 w6 hR6 hB6 hg6 hat6)
                    | fail)
                  have HJ6 := Lib.hid (HJ5.out.growG HPL.out hR6 (by rw [← HM.out]; exact hg6))
                  clear hR6 hB6 hg6 hat6 HJ5
                  go_wp2
                  go_roundw
                  case rel => exact ⟨k + 1, by omega, by omega, by go_num, Lib.hid ⟨_, _, _, by rw [HP.out]; exact HJ6.out, HO5.out.2⟩⟩
                  case measure => simp [intOf]; omega
            · have HA := Lib.hid (add_full t g n cap 1 v xs wr HJ.out.tb HOI.out.tk hnone)
              clear hnone
              go_wp2_with fail
              refine HA.out.mono ?_
              rintro e w5 ⟨rfl, rfl⟩
              have HJ5 := Lib.hid (HJ.out.later (Nat.le_succ k))
              clear HA HJ q0 q1 q2
              go_wp2
              go_roundw
              case rel => exact ⟨k + 1, by omega, by omega, by go_num, Lib.hid ⟨_, _, _, by rw [HM.out, HP.out]; exact HJ5.out, HOI.out⟩⟩
              case measure => simp [intOf]; omega
      · skip
        obtain ⟨m, hm'⟩ : ∃ m, m = G.length := ⟨_, rfl⟩
        obtain ⟨p, hp'⟩ : ∃ p, p = D.length := ⟨_, rfl⟩
        have hmk : m ≤ k := by rw [hm']; exact HJ.out.lg
        have hpk : p ≤ k := by rw [hp']; exact HJ.out.ld
        rw [← hm', ← hp']
        have HM := Lib.hid hm'
        have HP := Lib.hid hp'
        clear hm' hp'
        have hct : (allH 1 xs).length + p = m := by rw [HP.out, HM.out]; exact HOI.out.ct
        obtain ⟨a, ha⟩ : ∃ a, a = (allH 1 xs).length := ⟨_, rfl⟩
        have HAL := Lib.hid ha
        rw [← ha] at hct
        clear ha
        have hsub : ((m : Int) - (p : Int) : Int) = (a : Int) := by omega
        have HSUB := Lib.hid hsub
        clear hsub
        have htest : (decide (k < len) = false) ∨ (decide (k < len) = true ∧ decide ((k : Int) < 200) = false ∧ decide (k < 200) = false) := by
          rcases Nat.lt_or_ge k len with h1 | h1
          · exact .inr ⟨decide_eq_true h1, decide_eq_false (by omega), decide_eq_false (by omega)⟩
          · exact .inl (decide_eq_false (by omega))
        clear hlt
        rcases htest with u1 | ⟨u1, u2, u3⟩
        all_goals
          go_wp2_with fail
          go_loopw [14] (fun u wr => ∃ q : Nat, q ≤ p ∧ u = .int .i64 q ∧ Hid (OnceM w wr t g n cap w1.heap.size k (.slice Ag m cg) (.slice Ad p cd) xs G D)) (fun u _ => p - (intOf u).toNat)
          case atStart => exact ⟨0, Nat.zero_le _, rfl, Lib.hid (by rw [HM.out, HP.out]; exact HJ.out)⟩
          case round =>
            obtain ⟨q, hq, rfl, HJx⟩ := hrel
            clear HJ
            by_cases hqp : q < p
            · obtain ⟨gd, cd', ed, -⟩ := Kd.R_form HJx.out.rd (by rw [← HP.out]; omega)
              simp only [Value.slice.injEq, true_and] at ed
              obtain ⟨rfl, -, rfl⟩ := ed
              obtain ⟨hh, hhq⟩ : ∃ hh, D[q]? = some hh := ⟨D[q]'(by rw [← HP.out]; omega), List.getElem?_eq_getElem _⟩
              have cg0 : wr.cell? ⟨gd, q, none⟩ = some (.int .i64 hh) := int_cell HJx.out.rd hhq
              have HNO := Lib.hid (HOI.out.no (List.mem_of_getElem? hhq))
              clear hhq
              go_wp2_with fail
              refine (get_miss t g n cap 1 hh xs wr HJx.out.tb HOI.out.tk HNO.out).mono ?_
              rintro e w5 ⟨rfl, d5, hw5⟩
              have HB5 := Lib.hid (show Below wr.heap.size wr w5 by rw [hw5]; exact below_drewN' (Below.refl _ wr) d5)
              have HJ5 := Lib.hid (HJx.out.below HB5.out)
              have cg1 := keep HB5.out cg0
              clear hw5 cg0 HJx
              go_wp2_with fail
              refine (num03_err 20 w5 HJ5.out.la).mono ?_
              rintro e w6 ⟨rfl, hb6⟩
              have HB6 := Lib.hid (below_call HB5.out (Nat.le_refl _) hb6)
              have HJ6 := Lib.hid (HJ5.out.below hb6)
              have cg2 := keep hb6 cg1
              clear cg1 hb6 HB5 HJ5
              go_wp2_with fail
              refine (set_miss t g n cap 1 hh 1 xs w6 HJ6.out.tb HOI.out.tk HNO.out).mono ?_
              rintro e w7 ⟨rfl, d7, hw7⟩
              have HB7 := Lib.hid (show Below wr.heap.size wr w7 by rw [hw7]; exact below_drewN' HB6.out d7)
              have HJ7 := Lib.hid (show OnceM w w7 t g n cap w1.heap.size k _ _ xs G D by rw [hw7]; exact HJ6.out.below (below_drewN' (Below.refl _ w6) d7))
              have cg3 : w7.cell? ⟨gd, q, none⟩ = some (.int .i64 hh) := by rw [hw7]; exact cg2
              clear cg2 hw7 HB6 HJ6
              go_wp2_with fail
              refine (drop_miss t g n cap 1 hh xs w7 HJ7.out.tb HOI.out.tk HNO.out).mono ?_
              rintro e w8 ⟨rfl, d8, hw8⟩
              have HB8 := Lib.hid (show OnceM w w8 t g n cap w1.heap.size k _ _ xs G D by rw [hw8]; exact HJ7.out.below (below_drewN' (Below.refl _ w7) d8))
              clear cg3 hw8 HB7 HJ7
              go_wp2
              go_roundw
              case rel => exact ⟨q + 1, by omega, by go_num, HB8⟩
              case measure => simp [intOf]; omega
            · clear HSUB
              have HLN := Lib.hid (len_ok t g n cap 1 xs wr HJx.out.tb HOI.out.tk)
              rw [← HAL.out] at HLN
              have heq : ((a : Int) == (m : Int) - (p : Int)) = true := by simp; omega
              have heq2 : (m : Int) - (p : Int) = a := by omega
              go_wp2_with fail
              refine HLN.out.mono ?_
              rintro e w5 ⟨rfl, hb5⟩
              have HB5 := Lib.hid (below_call HJx.out.be (Nat.le_refl _) hb5)
              clear hb5 HLN
              go_wp2_with fail
              refine (sure03_ok w5).mono ?_
              rintro e w6 ⟨rfl, hb6⟩
              have HB6 := Lib.hid (below_call HB5.out (Nat.le_refl _) hb6)
              clear hb6
              go_wp2
              go_ret
              exact ⟨rfl, HB6.out⟩
  · skip
    have hv' : ¬ (1 ≤ (1 : Int) ∧ (1 : Int) ≤ 3 ∧ 1 ≤ many ∧ many ≤ 4096) := fun h => hv ⟨h.2.2.1, h.2.2.2⟩
    have htest : decide (many < 1) = true ∨ (decide (many < 1) = false ∧ decide (4096 < many) = true) := by
      by_cases h : many < 1
      · exact .inl (decide_eq_true h)
      · exact .inr ⟨decide_eq_false h, decide_eq_true (by omega)⟩
    have HN := Lib.hid (snew_bad 1 many w hv')
    clear hv hv'
    rcases htest with u1 | ⟨u1, u2⟩
    all_goals
      go_enter Tryd.func4, Tryd.ntmps4
      go_wp2_with fail
      refine HN.out.mono ?_
      rintro e w1 ⟨rfl, m, hw⟩
      have HB := Lib.hid (show Below w.heap.size w w1 by rw [hw]; exact below_drewN' (Below.refl _ w) m)
      clear hw
      go_wp2_with fail
      refine (sure03_ok w1).mono ?_
      rintro e w6 ⟨rfl, hb6⟩
      have HB6 := Lib.hid (below_call HB.out (Nat.le_refl _) hb6)
      clear hb6
      go_wp2
      go_ret
      exact ⟨rfl, HB6.out⟩

end Go.Proofs.YtgjlkplieoajlaaDoor
