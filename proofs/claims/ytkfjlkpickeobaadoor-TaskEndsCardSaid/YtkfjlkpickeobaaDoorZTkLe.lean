/- Of the text TkLe only what this claim needs (shake.py, this repo's). -/
import Derived.Test.YtkfjlkpickeobaaDoorZTkL3
import Derived.Test.YtkfjlkpickeobaaDoorZTkIa
import Derived.Test.YtkfjlkpickeobaaDoorZTmE
set_option linter.unusedVariables false
set_option linter.unusedSimpArgs false
namespace Go.Proofs.YtkfjlkpickeobaaDoor
open Go.RowKit
open Go.Proofs.YtkfjlkpickeobaaDoorW.PrintWords (Kd Drawn0 Kept rd rdOf ReadsRow)
open Go.Proofs.YtkfjlkpickeobaaDoor.PTaskRuns
set_option maxRecDepth 100000

/-- The early ways: nothing is played. -/
theorem lends_early (A : Option Addr) (n c : Nat) (fr : Int) (w : World) (h : 8 < n ∨ fr < 0 ∨ 1048576 < fr) :
    Calls Tryd.prog 7 #[.slice A n c, .int .i64 fr] w fun e w' => e = .returned (.bool true) ∧ Below w.heap.size w w' := by
  by_cases h1 : 8 < n
  · have t1 : decide ((8 : Int) < (n : Int)) = true := decide_eq_true (by omega)
    go_enter Tryd.func7, Tryd.ntmps7
    go_wp2_with fail
    refine (works_ok _).mono ?_
    rintro e w1 ⟨rfl, hb⟩
    go_wp2
    go_ret
    exact ⟨rfl, hb⟩
  · have t1 : decide ((8 : Int) < (n : Int)) = false := decide_eq_false (by omega)
    by_cases h2 : fr < 0
    · have t2 : decide (fr < 0) = true := decide_eq_true h2
      go_enter Tryd.func7, Tryd.ntmps7
      go_wp2_with fail
      refine (works_ok _).mono ?_
      rintro e w1 ⟨rfl, hb⟩
      go_wp2
      go_ret
      exact ⟨rfl, hb⟩
    · have t2 : decide (fr < 0) = false := decide_eq_false h2
      have t3 : decide ((1048576 : Int) < fr) = true := decide_eq_true (by omega)
      go_enter Tryd.func7, Tryd.ntmps7
      go_wp2_with fail
      refine (works_ok _).mono ?_
      rintro e w1 ⟨rfl, hb⟩
      go_wp2
      go_ret
      exact ⟨rfl, hb⟩

set_option maxHeartbeats 8000000 in
theorem lends_ok (A : Option Addr) (n c : Nat) (L : List Jb) (fr : Int) (w : World) (h : TR w (.slice A n c) L) (hnL : L.length = n) (hn : ¬ 8 < n) (hf : 0 ≤ fr ∧ fr ≤ 1048576) :
    Calls Tryd.prog 7 #[.slice A n c, .int .i64 fr] w fun e w' => e = .returned (.bool true) ∧ Below w.heap.size w w' := by
  obtain ⟨A', c', e0, hc, ho⟩ := h.open
  have hA : A' = A := by injection e0 with e1 _ _; exact e1.symm
  subst hA
  have HO := Lib.hid ho
  have HN := Lib.hid hnL
  have HF := Lib.hid hf
  obtain ⟨T0, hT0⟩ : ∃ T, T = pushT [] fr := ⟨_, rfl⟩
  have HNW : newF 0 = (T0, 0) := by rw [hT0]; unfold newF; rw [if_pos (by omega)]; rfl
  have HT0 := Lib.hid hT0
  clear hT0
  have HNW := Lib.hid HNW
  have s1 : decide ((8 : Int) < (n : Int)) = false := decide_eq_false (by omega)
  have s2 : decide (fr < 0) = false := decide_eq_false (by omega)
  have s3 : decide ((1048576 : Int) < fr) = false := decide_eq_false (by omega)
  clear h hnL ho e0 hc
  go_enter Tryd.func7, Tryd.ntmps7
  go_wp2_with fail
  refine (tnew_c 0 _).mono ?_
  rintro e w1 ⟨v1, he, hR, hb⟩
  rw [HNW.out] at he hR
  dsimp only at he hR
  rw [errV_0] at he
  subst he
  obtain ⟨A1, c1, rfl⟩ := Kd.R_slice hR
  obtain ⟨bt, hbt⟩ : ∃ b, b = w1.heap.size := ⟨_, rfl⟩
  obtain ⟨W1, hW1⟩ : ∃ y, y = w1.alloc (.cells (Tk.cs T0 (.slice A1 T0.js.length c1)).1 26) := ⟨_, rfl⟩
  have HR0 : Hid (RE w bt T0 (.slice A1 T0.js.length c1) W1) := by
    rw [hW1, hbt]
    exact Lib.hid ⟨TX.new (TR.of_R hR), below_alloc hb (Nat.le_refl _) _⟩
  have HBT : Hid (w.heap.size ≤ bt) := by rw [hbt]; exact Lib.hid hb.size
  have HW1 := Lib.hid hW1
  have Hbt := Lib.hid hbt
  clear hW1 hbt hR hb
  go_wp2_with fail
  rw [← HW1.out, ← Hbt.out]
  clear HW1 Hbt HNW
  go_loopw [7] (fun i wr => ∃ k : Nat, k ≤ n ∧ i = .int .i64 k ∧ Hid (∀ y ∈ L.take k, goodJ y) ∧ ∃ (T : Tk) (v : Value), Hid (T = pushT (L.take k) fr) ∧ Hid (RE w bt T v wr)) (fun i _ => n - (intOf i).toNat)
  case atStart => exact ⟨0, Nat.zero_le _, rfl, Lib.hid (fun y hy => by simp at hy), T0, _, HT0, HR0⟩
  case round =>
    clear HR0
    obtain ⟨k, hk, rfl, hG, T, v, hT, hR⟩ := hrel
    by_cases hlt : k < n
    · obtain ⟨x, hx⟩ : ∃ x, L[k]? = some x := ⟨_, List.getElem?_eq_getElem (by have := HN.out; omega)⟩
      obtain ⟨b, o, rfl, hj⟩ := HO.out k x hx
      obtain ⟨j0, j1, j2, j3⟩ := hj.below hR.out.be
      have HX := Lib.hid hx
      clear hj hx
      by_cases g0 : x.f0 < 1 ∨ 60 < x.f0 ∨ x.f1 < 0 ∨ x.f3 < 0 ∨ 1048576 < x.f3 ∨ 1048576 < x.f1
      · clear HT0
        by_cases e0 : x.f0 < 1
        · have d1 : decide (x.f0 < 1) = true := decide_eq_true e0
          clear g0 e0
          go_wp2_with fail
          refine (works_ok _).mono ?_
          rintro e we ⟨rfl, hb⟩
          have HBE := below_call hR.out.be (Nat.le_refl _) hb
          go_wp2
          go_ret
          exact ⟨rfl, HBE⟩
        · have d1 : decide (x.f0 < 1) = false := decide_eq_false e0
          by_cases e1 : 60 < x.f0
          · have d2 : decide (60 < x.f0) = true := decide_eq_true e1
            clear g0 e0 e1
            go_wp2_with fail
            refine (works_ok _).mono ?_
            rintro e we ⟨rfl, hb⟩
            have HBE := below_call hR.out.be (Nat.le_refl _) hb
            go_wp2
            go_ret
            exact ⟨rfl, HBE⟩
          · have d2 : decide (60 < x.f0) = false := decide_eq_false e1
            by_cases e2 : x.f1 < 0
            · have d3 : decide (x.f1 < 0) = true := decide_eq_true e2
              clear g0 e0 e1 e2
              go_wp2_with fail
              refine (works_ok _).mono ?_
              rintro e we ⟨rfl, hb⟩
              have HBE := below_call hR.out.be (Nat.le_refl _) hb
              go_wp2
              go_ret
              exact ⟨rfl, HBE⟩
            · have d3 : decide (x.f1 < 0) = false := decide_eq_false e2
              by_cases e3 : x.f3 < 0
              · have d4 : decide (x.f3 < 0) = true := decide_eq_true e3
                clear g0 e0 e1 e2 e3
                go_wp2_with fail
                refine (works_ok _).mono ?_
                rintro e we ⟨rfl, hb⟩
                have HBE := below_call hR.out.be (Nat.le_refl _) hb
                go_wp2
                go_ret
                exact ⟨rfl, HBE⟩
              · have d4 : decide (x.f3 < 0) = false := decide_eq_false e3
                by_cases e4 : 1048576 < x.f3
                · have d5 : decide (1048576 < x.f3) = true := decide_eq_true e4
                  clear g0 e0 e1 e2 e3 e4
                  go_wp2_with fail
                  refine (works_ok _).mono ?_
                  rintro e we ⟨rfl, hb⟩
                  have HBE := below_call hR.out.be (Nat.le_refl _) hb
                  go_wp2
                  go_ret
                  exact ⟨rfl, HBE⟩
                · have d5 : decide (1048576 < x.f3) = false := decide_eq_false e4
                  have d6 : decide (1048576 < x.f1) = true := decide_eq_true (by omega)
                  clear g0 e0 e1 e2 e3 e4
                  go_wp2_with fail
                  refine (works_ok _).mono ?_
                  rintro e we ⟨rfl, hb⟩
                  have HBE := below_call hR.out.be (Nat.le_refl _) hb
                  go_wp2
                  go_ret
                  exact ⟨rfl, HBE⟩
      · have d1 : decide (x.f0 < 1) = false := decide_eq_false (by omega)
        have d2 : decide (60 < x.f0) = false := decide_eq_false (by omega)
        have d3 : decide (x.f1 < 0) = false := decide_eq_false (by omega)
        have d4 : decide (x.f3 < 0) = false := decide_eq_false (by omega)
        have d5 : decide (1048576 < x.f3) = false := decide_eq_false (by omega)
        have d6 : decide (1048576 < x.f1) = false := decide_eq_false (by omega)
        have hgx : goodJ x := ⟨by omega, by omega, by omega⟩
        have HGX := Lib.hid hgx
        clear hgx
        obtain ⟨T1, hT1⟩ : ∃ U, U = pushT (L.take (k + 1)) fr := ⟨_, rfl⟩
        have hkl : (L.take k).length = k := by rw [List.length_take]; have := HN.out; omega
        have hPE : pushF T x fr = (T1, 0) := by
          rw [hT.out, hT1, push_good (by omega) hG.out HGX.out HF.out, List.take_add_one, HX.out]
          rfl
        have HLb : Hid (T.js.length ≤ 9223372036854775800) := by
          have e : T.js.length = k := by rw [hT.out]; simpa using hkl
          exact Lib.hid (by omega)
        have HPE := Lib.hid hPE
        have HT1 := Lib.hid hT1
        clear hPE hT1 hkl g0
        obtain ⟨A2, c2, rfl, -, -⟩ := id hR.out.t.tr
        obtain ⟨t0, t1, t2, t3, t4, t5, t6, t7⟩ := hR.out.t.t8
        have lt := hR.out.t.lt
        have lb : b < wr.heap.size := World.block_lt_of_cell? wr _ j0
        go_wp2_with fail
        apply merge3 (G := RG wr bt T T1 (.slice A2 T.js.length c2))
        · intro H
          first | go_loud (go_region_law (first
            | (go_simp; go_at_call 11; refine (tpush_any T (.slice A2 T.js.length c2) x fr _ (hR.out.t.below (by repeat (first | exact Below.refl _ _ | refine below_drewN' ?_ 1 | refine below_alloc ?_ (Nat.le_refl _) _))).tr HLb.out).mono ?_; rintro e w2 ⟨v2, he, hRv, hb⟩; rw [HPE.out] at he hRv; dsimp only at he hRv; rw [errV_0] at he; subst he; obtain ⟨A3, c3, rfl⟩ := Kd.R_slice hRv; have HRV := Lib.hid hRv; have HB2 := Lib.hid hb; first | (have HNB := Lib.hid (fresh8 hb); obtain ⟨⟨n0, n1, n2, n3, n4, n5, n6, n7⟩, m0, m1, m2, m3, m4, m5, m6, m7⟩ := blk8 (fresh8 hb)) | skip; clear hRv hb))) | fail
          all_goals first
            | (have hX := RG.alloc (T1 := T1) (v := (.slice A3 T1.js.length c3)) hR.out.t HRV.out (by simp) (below_call (below_drewN' (Below.refl _ wr) 1) (Nat.le_refl _) HB2.out)
               revert hX
               generalize w2.alloc (.cells #[.int .i64 T1.p, (.slice A3 T1.js.length c3), .int .i64 T1.g, .int .i64 T1.o, .int .i64 T1.l, .int .i64 T1.d, .int .i64 T1.c, .int .i64 T1.t] 26) = W
               generalize w2.heap.size = b8
               generalize (Value.slice A3 T1.js.length c3) = v3
               intro hX
               with_reducible exact H.out b8 v3 W hX)
            | (have hX := RG.store (U := zT) (z := nilS) (T1 := T1) (v := (.slice A3 T1.js.length c3)) hR.out.t HRV.out (by simp) (below_call (below_alloc (below_drewN' (Below.refl _ wr) 1) (Nat.le_refl _) _) (Nat.le_refl _) HB2.out) HNB.out
               revert hX
               generalize ((((((((w2.setCell ⟨wr.heap.size, 0, none⟩ (.int .i64 T1.p)).setCell ⟨wr.heap.size, 1, none⟩ (.slice A3 T1.js.length c3)).setCell ⟨wr.heap.size, 2, none⟩ (.int .i64 T1.g)).setCell ⟨wr.heap.size, 3, none⟩ (.int .i64 T1.o)).setCell ⟨wr.heap.size, 4, none⟩ (.int .i64 T1.l)).setCell ⟨wr.heap.size, 5, none⟩ (.int .i64 T1.d)).setCell ⟨wr.heap.size, 6, none⟩ (.int .i64 T1.c)).setCell ⟨wr.heap.size, 7, none⟩ (.int .i64 T1.t)) = W
               generalize (Value.slice A3 T1.js.length c3) = v3
               clear HNB n0 n1 n2 n3 n4 n5 n6 n7 m0 m1 m2 m3 m4 m5 m6 m7
               obtain ⟨b8, hb8⟩ : ∃ b, b = wr.heap.size := ⟨_, rfl⟩
               rw [← hb8]
               intro hX
               with_reducible exact H.out b8 v3 W hX)
        intro b8 v3 W hZ
        obtain ⟨A3, c3, hv3⟩ := Kd.R_slice hZ.r
        subst hv3
        obtain ⟨⟨n0, n1, n2, n3, n4, n5, n6, n7⟩, -⟩ := blk8 hZ.n
        obtain ⟨⟨p0, p1, p2, p3, p4, p5, p6, p7⟩, m0, m1, m2, m3, m4, m5, m6, m7⟩ := blk8 hZ.o
        have HRE := Lib.hid (hZ.done HBT.out hR.out.be lt)
        clear hZ t0 t1 t2 t3 t4 t5 t6 t7 j0 j1 j2 j3 lt lb
        go_wp2
        go_roundw
        case rel => exact ⟨k + 1, by omega, by go_num, Lib.hid (by
          intro y hy
          rw [List.take_add_one, HX.out] at hy
          rcases List.mem_append.1 hy with h | h
          · exact hG.out y h
          · have : y = x := by simpa using h
            rw [this]; exact HGX.out), T1, _, HT1, HRE⟩
        case measure => simp [intOf]; omega
    · have hkn : k = n := by omega
      have hall : L.take k = L := List.take_of_length_le (by have := HN.out; omega)
      have HG : Hid (∀ y ∈ L, goodJ y) := by have := hG.out; rw [hall] at this; exact Lib.hid this
      have HJ0 : Hid (JobI L fr 0 0 0 T) := by have := hT.out; rw [hall] at this; rw [this]; exact Lib.hid job_start
      clear hG hT HT0 hall
      go_wp2_with fail
      go_loopw [10, 11, 12] (fun qv lv iv wr => ∃ (k : Nat) (q g late : Int) (T : Tk) (v : Value), k ≤ n ∧ qv = .int .i64 q ∧ lv = .int .i64 late ∧ iv = .int .i64 k ∧ (0 ≤ q ∧ q ≤ 1100000) ∧ (0 ≤ late ∧ late ≤ 8) ∧ Hid (q = fr + g ∧ 0 ≤ g ∧ g ≤ 480) ∧ Hid (JobI L fr k g late T) ∧ Hid (RE w bt T v wr)) (fun _ _ i _ => n - (intOf i).toNat)
      case atStart => exact ⟨0, fr, 0, 0, T, v, Nat.zero_le _, rfl, rfl, rfl, by have := HF.out; omega, by omega, Lib.hid (by omega), HJ0, hR⟩
      case round =>
        clear HJ0 hR hkn hlt hk
        obtain ⟨k, q, g, late, T, v, hk, rfl, rfl, rfl, hqb, hlb, hQ, hJ, hR⟩ := hrel
        by_cases hlt : k < n
        · obtain ⟨x, hx⟩ : ∃ x, L[k]? = some x := ⟨_, List.getElem?_eq_getElem (by have := HN.out; omega)⟩
          obtain ⟨b, o, rfl, hj0⟩ := HO.out k x hx
          obtain ⟨j0, j1, j2, j3⟩ := hj0.below hR.out.be
          have hgx : goodJ x := HG.out x (List.mem_of_getElem? hx)
          have HGX := Lib.hid hgx
          have HX := Lib.hid hx
          have hx0 := hgx.1
          have hx1 := hgx.2.1
          have hx3 := hgx.2.2
          obtain ⟨d0, c0, hTI, hdc, hd, hc, hl0, hlk, hkg, hg60⟩ := job_in hx hgx hJ.out
          have HTI := Lib.hid hTI
          have HD := Lib.hid (show d0 + c0 = k ∧ 0 ≤ d0 ∧ 0 ≤ c0 ∧ 0 ≤ late ∧ late ≤ k ∧ (k : Int) ≤ g ∧ g ≤ 60 * k from ⟨hdc, hd, hc, hl0, hlk, hkg, hg60⟩)
          clear hx hgx hTI hdc hd hc hl0 hlk hkg hg60
          by_cases c1 : 0 < x.f1
          · by_cases c2 : x.f1 < x.f0
            · have q1 : decide (0 < x.f1) = true := decide_eq_true c1
              have q2 : decide (x.f1 < x.f0) = true := decide_eq_true c2
              have hN : needF x = x.f1 := if_pos ⟨c1, c2⟩
              have hE : endF x = 2 := if_pos ⟨c1, c2⟩
              have HNE := Lib.hid (show needF x = x.f1 ∧ endF x = 2 from ⟨hN, hE⟩)
              clear hN hE c1 c2 hx0 hx1 hx3
              go_wp2_with fail
              go_quiet (fail)
              go_wp2_with fail
              refine loop3 (L := L) (x := x) (fr := fr) (g := g) (T := T) (v := v) (d0 := d0) (c0 := c0) (k := k) hj0 HN hn HF HG HGX HBT hlt HNE hQ hlb HTI HD (Lib.hid (hR.out.below (below_drewN' (Below.refl _ _) nq))) (Lib.hid ?_)
              intro m q1 late1 T1 v1 W n4 n15 n16 n17 n18 n19 n20 n21 n145 n146 n147 n148 n149 n150 n151 n152 n153 n154 n155 n156 n157 n158 n159 n160 n161 n162 n163 n164 n165 n166 n167 n168 n169 n170 n171 n172 n173 n174 n175 n176 n177 n178 n179 n180 n181 n182 n183 n184 n185 n186 n187 n188 n189 n190 n191 n192 n193 n194 n195 n196 n197 n198 n199 n200 n201 n202 n203 n204 n205 n206 n207 n208 n209 n210 n211 n212 n213 n214 n215 n216 n217 n218 n219 n220 n221 n222 n223 n224 hmN hq1 hTI1 hR1
              have hJ1 := job_out HGX.out (by rw [HNE.out.1]; exact hmN) hTI1 HD.out.1 HD.out.2.2.2.2.2.1 HD.out.2.2.2.2.2.2
              have hJ1' := hJ1
              obtain ⟨_, _, -, -, -, -, hl0, hl1, -, hg1⟩ := hJ1'
              have HJ1 := Lib.hid hJ1
              have HQ1 : Hid (q1 = fr + (g + m) ∧ 0 ≤ g + (m : Int) ∧ g + (m : Int) ≤ 480) := Lib.hid (by have := hQ.out; omega)
              have hqb1 : 0 ≤ q1 ∧ q1 ≤ 1100000 := by have := HF.out; have := HQ1.out; omega
              have HR1 := Lib.hid hR1
              clear hJ1 hmN hq1 hTI1 hR1
              go_wp2
              go_roundw
              case rel => exact ⟨k + 1, q1, g + m, late1, T1, v1, by omega, by go_num, by go_num, by go_num, hqb1, by omega, HQ1, HJ1, HR1⟩
              case measure => simp [intOf]; omega
            · have q1 : decide (0 < x.f1) = true := decide_eq_true c1
              have q2 : decide (x.f1 < x.f0) = false := decide_eq_false c2
              have hN : needF x = x.f0 := if_neg (fun h => c2 h.2)
              have hE : endF x = 1 := if_neg (fun h => c2 h.2)
              have HNE := Lib.hid (show needF x = x.f0 ∧ endF x = 1 from ⟨hN, hE⟩)
              clear hN hE c1 c2 hx0 hx1 hx3
              go_wp2_with fail
              go_quiet (fail)
              go_wp2_with fail
              refine loop3 (L := L) (x := x) (fr := fr) (g := g) (T := T) (v := v) (d0 := d0) (c0 := c0) (k := k) hj0 HN hn HF HG HGX HBT hlt HNE hQ hlb HTI HD (Lib.hid (hR.out.below (below_drewN' (Below.refl _ _) nq))) (Lib.hid ?_)
              intro m q1 late1 T1 v1 W n4 n15 n16 n17 n18 n19 n20 n21 n145 n146 n147 n148 n149 n150 n151 n152 n153 n154 n155 n156 n157 n158 n159 n160 n161 n162 n163 n164 n165 n166 n167 n168 n169 n170 n171 n172 n173 n174 n175 n176 n177 n178 n179 n180 n181 n182 n183 n184 n185 n186 n187 n188 n189 n190 n191 n192 n193 n194 n195 n196 n197 n198 n199 n200 n201 n202 n203 n204 n205 n206 n207 n208 n209 n210 n211 n212 n213 n214 n215 n216 n217 n218 n219 n220 n221 n222 n223 n224 hmN hq1 hTI1 hR1
              have hJ1 := job_out HGX.out (by rw [HNE.out.1]; exact hmN) hTI1 HD.out.1 HD.out.2.2.2.2.2.1 HD.out.2.2.2.2.2.2
              have hJ1' := hJ1
              obtain ⟨_, _, -, -, -, -, hl0, hl1, -, hg1⟩ := hJ1'
              have HJ1 := Lib.hid hJ1
              have HQ1 : Hid (q1 = fr + (g + m) ∧ 0 ≤ g + (m : Int) ∧ g + (m : Int) ≤ 480) := Lib.hid (by have := hQ.out; omega)
              have hqb1 : 0 ≤ q1 ∧ q1 ≤ 1100000 := by have := HF.out; have := HQ1.out; omega
              have HR1 := Lib.hid hR1
              clear hJ1 hmN hq1 hTI1 hR1
              go_wp2
              go_roundw
              case rel => exact ⟨k + 1, q1, g + m, late1, T1, v1, by omega, by go_num, by go_num, by go_num, hqb1, by omega, HQ1, HJ1, HR1⟩
              case measure => simp [intOf]; omega
          · have q1 : decide (0 < x.f1) = false := decide_eq_false c1
            have hN : needF x = x.f0 := if_neg (fun h => c1 h.1)
            have hE : endF x = 1 := if_neg (fun h => c1 h.1)
            have HNE := Lib.hid (show needF x = x.f0 ∧ endF x = 1 from ⟨hN, hE⟩)
            clear hN hE c1 hx0 hx1 hx3
            go_wp2_with fail
            go_quiet (fail)
            go_wp2_with fail
            refine loop3 (L := L) (x := x) (fr := fr) (g := g) (T := T) (v := v) (d0 := d0) (c0 := c0) (k := k) hj0 HN hn HF HG HGX HBT hlt HNE hQ hlb HTI HD (Lib.hid (hR.out.below (below_drewN' (Below.refl _ _) nq))) (Lib.hid ?_)
            intro m q1 late1 T1 v1 W n4 n15 n16 n17 n18 n19 n20 n21 n145 n146 n147 n148 n149 n150 n151 n152 n153 n154 n155 n156 n157 n158 n159 n160 n161 n162 n163 n164 n165 n166 n167 n168 n169 n170 n171 n172 n173 n174 n175 n176 n177 n178 n179 n180 n181 n182 n183 n184 n185 n186 n187 n188 n189 n190 n191 n192 n193 n194 n195 n196 n197 n198 n199 n200 n201 n202 n203 n204 n205 n206 n207 n208 n209 n210 n211 n212 n213 n214 n215 n216 n217 n218 n219 n220 n221 n222 n223 n224 hmN hq1 hTI1 hR1
            have hJ1 := job_out HGX.out (by rw [HNE.out.1]; exact hmN) hTI1 HD.out.1 HD.out.2.2.2.2.2.1 HD.out.2.2.2.2.2.2
            have hJ1' := hJ1
            obtain ⟨_, _, -, -, -, -, hl0, hl1, -, hg1⟩ := hJ1'
            have HJ1 := Lib.hid hJ1
            have HQ1 : Hid (q1 = fr + (g + m) ∧ 0 ≤ g + (m : Int) ∧ g + (m : Int) ≤ 480) := Lib.hid (by have := hQ.out; omega)
            have hqb1 : 0 ≤ q1 ∧ q1 ≤ 1100000 := by have := HF.out; have := HQ1.out; omega
            have HR1 := Lib.hid hR1
            clear hJ1 hmN hq1 hTI1 hR1
            go_wp2
            go_roundw
            case rel => exact ⟨k + 1, q1, g + m, late1, T1, v1, by omega, by go_num, by go_num, by go_num, hqb1, by omega, HQ1, HJ1, HR1⟩
            case measure => simp [intOf]; omega
        · have hkn : k = n := by omega
          obtain ⟨hrun, hw0, hjs, hTg, hTo, hTdc, hTt, hTl, hd0, hc0, hd8, hc8⟩ := job_end (L := L) (by have := HN.out; omega) HF.out (by have h := hJ.out; rw [hkn, ← HN.out] at h; exact h)
          rw [← hQ.out.1] at hrun
          have HRUN := Lib.hid hrun
          have HW0 := Lib.hid hw0
          have hjl0 : T.js.length = 0 := by rw [hjs]; rfl
          have HJ0 := Lib.hid hjl0
          have HJL : Hid (T.js.length ≤ 9223372036854775800) := Lib.hid (by omega)
          have HTA := Lib.hid (show T.g = g ∧ T.o = g ∧ T.d + T.c = L.length ∧ T.t = late ∧ T.l = 0 ∧ 0 ≤ T.d ∧ 0 ≤ T.c ∧ T.d ≤ 8 ∧ T.c ≤ 8 from ⟨hTg, hTo, hTdc, hTt, hTl, hd0, hc0, hd8, hc8⟩)
          clear hrun hw0 hjs hjl0 hTg hTo hTdc hTt hTl hd0 hc0 hd8 hc8 hJ
          obtain ⟨A2, c2, rfl, -, -⟩ := id hR.out.t.tr
          obtain ⟨t0, t1, t2, t3, t4, t5, t6, t7⟩ := hR.out.t.t8
          go_wp2_with fail
          refine (trun_any T (.slice A2 T.js.length c2) q _ hR.out.t.tr HJL.out).mono ?_
          rintro e w5 ⟨v5, he, hRv, hb⟩
          rw [HRUN.out] at he hRv
          dsimp only at he hRv
          rw [errV_n (by decide)] at he
          subst he
          obtain ⟨A3, c3, rfl⟩ := Kd.R_slice hRv
          obtain ⟨w5', hw5⟩ : ∃ W, W = w5.alloc (.cells #[.int .i64 0, .slice A3 0 c3, .int .i64 0, .int .i64 0, .int .i64 0, .int .i64 0, .int .i64 0, .int .i64 0] 26) := ⟨_, rfl⟩
          have HR5 : Hid (RE w bt T (.slice A2 T.js.length c2) w5') := by rw [hw5]; exact Lib.hid ((hR.out.below hb).below ((Below.refl _ _).alloc (Nat.le_refl _) _))
          have HW5 := Lib.hid hw5
          have HRw := Lib.hid (hR.out.below hb)
          clear hw5
          obtain ⟨t0, t1, t2, t3, t4, t5, t6, t7⟩ := HRw.out.t.t8
          have lbt := HRw.out.t.lt
          clear hRv hb t0 t1 t2 t3 t4 t5 t6 t7
          have hgq : g = q - fr := by have := hQ.out; omega
          obtain ⟨b9, hb9⟩ : ∃ b, b = w5.heap.size + 1 := ⟨_, rfl⟩
          obtain ⟨W6, hW6⟩ : ∃ W, W = w5'.alloc (.cells #[.int .i64 (q - fr), .int .i64 (q - fr), .int .i64 0, .int .i64 T.d, .int .i64 T.c, .int .i64 late] 24) := ⟨_, rfl⟩
          have HAC : Hid (W6.heap[b9]? = some (.cells #[.int .i64 (q - fr), .int .i64 (q - fr), .int .i64 0, .int .i64 T.d, .int .i64 T.c, .int .i64 late] 24 (0, 0))) := by
            have e : w5'.heap.size = w5.heap.size + 1 := by rw [HW5.out]; simp
            rw [hW6, hb9, ← e]; exact Lib.hid (heap_alloc_new w5' _)
          have HR6 : Hid (RE w bt T (.slice A2 T.js.length c2) W6) := by rw [hW6]; exact Lib.hid (HR5.out.below ((Below.refl _ _).alloc (Nat.le_refl _) _))
          have HW6 := Lib.hid hW6
          have Hb9 := Lib.hid hb9
          clear hW6 hb9
          obtain ⟨t0, t1, t2, t3, t4, t5, t6, t7⟩ := HRw.out.t.t8
          rw [HTA.out.1] at t2
          rw [HTA.out.2.1] at t3
          rw [HTA.out.2.2.2.2.1] at t4
          rw [HTA.out.2.2.2.1] at t7
          rw [hgq] at t2 t3
          clear hgq
          go_wp2_with fail
          rw [← HW5.out, ← HW6.out, ← Hb9.out]
          clear t0 t1 t2 t3 t4 t5 t6 t7 HW6 Hb9 HW5 HRw lbt HR5
          refine (num_errno 50 _).mono ?_
          rintro e w_ ⟨rfl, rfl⟩
          have hdc : T.d + T.c = (n : Int) := by have := HTA.out; have := HN.out; omega
          have hdb : 0 ≤ T.d ∧ 0 ≤ T.c ∧ T.d ≤ 8 ∧ T.c ≤ 8 := HTA.out.2.2.2.2.2
          obtain ⟨t0, t1, t2, t3, t4, t5, t6, t7⟩ := HR6.out.t.t8
          obtain ⟨a0, a1, a2, a3, a4, a5⟩ := acc6 HAC.out
          go_wp2_with fail
          clear t0 t1 t2 t3 t4 t5 t6 t7 a0 a1 a2 a3 a4 a5
          refine (tready_c T (.slice A2 T.js.length c2) false _ HR6.out.t.tr (by rw [HJ0.out]; rfl)).mono ?_
          rintro e w7 ⟨rfl, hb⟩
          replace HR6 := Lib.hid (HR6.out.below hb)
          replace HAC := Lib.hid (acc_below HAC.out hb)
          clear hb
          obtain ⟨t0, t1, t2, t3, t4, t5, t6, t7⟩ := HR6.out.t.t8
          obtain ⟨a0, a1, a2, a3, a4, a5⟩ := acc6 HAC.out
          go_wp2_with fail
          clear t0 t1 t2 t3 t4 t5 t6 t7 a0 a1 a2 a3 a4 a5
          refine (twork_c T (.slice A2 T.js.length c2) _ HR6.out.t.tr HJL.out).mono ?_
          rintro e w7 ⟨rfl, hb⟩
          rw [HW0.out]
          replace HR6 := Lib.hid (HR6.out.below hb)
          replace HAC := Lib.hid (acc_below HAC.out hb)
          clear hb
          obtain ⟨t0, t1, t2, t3, t4, t5, t6, t7⟩ := HR6.out.t.t8
          obtain ⟨a0, a1, a2, a3, a4, a5⟩ := acc6 HAC.out
          go_wp2_with fail
          clear t0 t1 t2 t3 t4 t5 t6 t7 a0 a1 a2 a3 a4 a5
          refine (works_ok _).mono ?_
          rintro e we ⟨rfl, hb⟩
          have HBE := below_call HR6.out.be (Nat.le_refl _) hb
          go_wp2
          go_ret
          exact ⟨rfl, HBE⟩

theorem lends_rd {a : Option Addr} {n c : Nat} (fr : Int) {w : World} (h0 : Rd22 w [.slice a n c]) :
    Calls Tryd.prog 7 #[.slice a n c, .int .i64 fr] w fun e w' => e = .returned (.bool true) ∧ Below w.heap.size w w' := by
  by_cases h8 : 8 < n
  · exact lends_early a n c fr w (.inl h8)
  · by_cases hf : 0 ≤ fr ∧ fr ≤ 1048576
    · obtain ⟨v, js, e, h1, h2⟩ := jobs_of_rd h0
      have hv : v = .slice a n c := by simpa using e.symm
      subst hv
      obtain ⟨A', c', e', h3, h4⟩ := id h1
      have hn : js.length = n := by injection e' with _ q _; exact q.symm
      exact lends_ok a n c js fr w h1 hn h8 hf
    · exact lends_early a n c fr w (.inr (by omega))

end Go.Proofs.YtkfjlkpickeobaaDoor
