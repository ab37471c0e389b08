/- A row of tasks; task.Pick, by contract. Printed by gen_tkn.py (this repo's). -/
import Derived.Test.YtkfjlkpickeobaaDoorTkN0
set_option linter.unusedVariables false
set_option linter.unusedSimpArgs false
namespace Go.Proofs.YtkfjlkpickeobaaDoor
open Go.RowKit
open Go.Proofs.YtkfjlkpickeobaaDoorW.PrintWords (Kd Drawn0 Kept rd rdOf ReadsRow)
open Go.Proofs.YtkfjlkpickeobaaDoor.PTaskRuns
set_option maxRecDepth 100000

attribute [local go_sem] undef_bool

set_option maxHeartbeats 4000000 in
theorem pick_ok (A : Option Addr) (n c : Nat) (Ts : List (Tk × Value)) (w : World) (h : TL w A n Ts) (hn : n ≤ 4000000000000) :
    Calls Tryd.prog 20 #[.slice A n c] w fun e w' => ∃ z : Int, e = .returned (.int .i64 z) ∧ PK Ts n z ∧ Below w.heap.size w w' := by
  have HT := Lib.hid h
  clear h
  go_enter Tryd.func20, Tryd.ntmps20
  go_wp2
  go_loopw [3, 8] (fun b i wr => ∃ k : Nat, k ≤ n ∧ i = .int .i64 k ∧ ∃ z : Int, b = .int .i64 z ∧ Hid (PK Ts k z) ∧ Hid (Below w.heap.size w wr)) (fun _ i _ => n - (intOf i).toNat)
  case atStart => exact ⟨0, Nat.zero_le _, rfl, -1, rfl, Lib.hid (PK.zero _), Lib.hid (Below.refl _ _)⟩
  case round =>
    obtain ⟨k, hk, rfl, z, rfl, hP, hB⟩ := hrel
    by_cases hlt : k < n
    · obtain ⟨⟨T, v⟩, hx⟩ : ∃ x, Ts[k]? = some x := ⟨_, List.getElem?_eq_getElem (by have := HT.out.1; omega)⟩
      obtain ⟨b, o, rfl, hy⟩ := HT.out.2 k T v hx
      have hyr := hy.below hB.out
      obtain ⟨A1, c1, rfl, -, -⟩ := id hy.tr
      obtain ⟨y0, y1, y2, y3, y4, y5, y6, y7, ytr⟩ := hyr
      obtain ⟨tb, htb⟩ : ∃ b, b = wr.heap.size := ⟨_, rfl⟩
      obtain ⟨W1, hW1⟩ : ∃ y, y = wr.alloc (.cells (Tk.cs T (.slice A1 T.js.length c1)).1 26) := ⟨_, rfl⟩
      have hX : TX W1 tb T (.slice A1 T.js.length c1) := by rw [hW1, htb]; exact TX.new ytr
      have hB1 : Below w.heap.size w W1 := by rw [hW1]; exact below_alloc hB.out (Nat.le_refl _) _
      have HX := Lib.hid hX
      have HB1 := Lib.hid hB1
      have HW1 := Lib.hid hW1
      have HTB := Lib.hid htb
      have HXK := Lib.hid hx
      have HYB := Lib.hid (fun (j : Nat) (U : Tk) (u : Value) (h : Ts[j]? = some (U, u)) => show ∃ cc, W1.cell? ⟨b, o + j * 8, none⟩ = some cc ∧ cc = .int .i64 U.p from by
        obtain ⟨b', o', e, hu⟩ := HT.out.2 j U u h
        obtain ⟨rfl, rfl⟩ : b = b' ∧ o = o' := by simpa using e
        exact ⟨_, keep hB1 hu.c0, rfl⟩)
      have HY0 := Lib.hid (show W1.cell? ⟨b, o + k * 8, none⟩ = some (.int .i64 T.p) from (by
        have := hy.c0
        exact keep hB1 this))
      clear hy hX hB1 hW1 htb hx ytr
      by_cases hj : T.js = []
      · have HRD := Lib.hid (show decide (0 < T.js.length) = false by rw [hj]; rfl)
        have HP2 := Lib.hid (PK.skip hP.out HXK.out (.inl hj))
        have HQ0 : RN w tb T (.slice A1 T.js.length c1) b o k T.p W1 := ⟨HX.out, HY0.out, HB1.out⟩
        have HF0 := HQ0.full
        go_split_ands
        clear hj
        go_wp2_with fail
        rw [← HW1.out, ← HTB.out]
        have HQD := Lib.hid HQ0.drew
        apply mergeW (G := RN w tb T (.slice A1 T.js.length c1) b o k T.p)
        · intro H
          first | go_loud (go_region_law (first
            | (go_simp; go_at_call 18; (with_reducible refine (tready_c T (.slice A1 T.js.length c1) false _ HQD.out.t.tr HRD.out).mono ?_); rintro e w2 ⟨rfl, hb⟩; have HR2 := Lib.hid (HQD.out.below hb); clear hb))) | fail
          all_goals exact H.out w2 HR2.out
        intro w' hG
        have HB2 := Lib.hid hG.be
        clear hG HQD
        clear HX HB1 HQ0
        go_wp2
        go_roundw
        case rel => exact ⟨k + 1, by omega, by go_num, z, rfl, HP2, HB2⟩
        case measure => simp [intOf]; omega
      · have HRD := Lib.hid (show decide (0 < T.js.length) = true from decide_eq_true (List.length_pos_iff.2 hj))
        have hbd := PK.bd hP.out
        by_cases hz : z < 0
        · have hz1 : z = -1 := by omega
          have HP2 := Lib.hid (PK.take hP.out HXK.out hj (.inl hz1))
          have t1 : decide (z < 0) = true := decide_eq_true hz
          have HQ0 : RN w tb T (.slice A1 T.js.length c1) b o k T.p W1 := ⟨HX.out, HY0.out, HB1.out⟩
          have HF0 := HQ0.full
          go_split_ands
          clear hj hz1
          go_wp2_with fail
          rw [← HW1.out, ← HTB.out]
          have HQD := Lib.hid HQ0.drew
          apply mergeW (G := RN w tb T (.slice A1 T.js.length c1) b o k T.p)
          · intro H
            first | go_loud (go_region_law (first
              | (go_simp; go_at_call 18; (with_reducible refine (tready_c T (.slice A1 T.js.length c1) true _ HQD.out.t.tr HRD.out).mono ?_); rintro e w2 ⟨rfl, hb⟩; have HR2 := Lib.hid (HQD.out.below hb); clear hb))) | fail
            all_goals exact H.out w2 HR2.out
          intro w' hG
          have HB2 := Lib.hid hG.be
          clear hG HQD
          clear HX HB1 HQ0
          go_wp2
          go_roundw
          case rel => exact ⟨k + 1, by omega, by go_num, (k : Int), rfl, HP2, HB2⟩
          case measure => simp [intOf]; omega
        · obtain ⟨j, rfl⟩ : ∃ j : Nat, z = j := ⟨z.toNat, by omega⟩
          obtain ⟨⟨U, u⟩, hu⟩ : ∃ x, Ts[j]? = some x := ⟨_, List.getElem?_eq_getElem (by have := HT.out.1; omega)⟩
          have t1 : decide ((j : Int) < 0) = false := decide_eq_false hz
          have hjn : j < n := by omega
          obtain ⟨cc, hcc, rfl⟩ := HYB.out j U u hu
          have HQ0 : RN w tb T (.slice A1 T.js.length c1) b o j U.p W1 := ⟨HX.out, hcc, HB1.out⟩
          have HF0 := HQ0.full
          clear hcc
          go_split_ands
          by_cases hlp : T.p < U.p
          · have t2 : decide (T.p < U.p) = true := decide_eq_true hlp
            have HP2 := Lib.hid (PK.take hP.out HXK.out hj (.inr ⟨j, U, u, rfl, hu, hlp⟩))
            clear hj hu
            go_wp2_with fail
            rw [← HW1.out, ← HTB.out]
            first | go_region_held3 (fun w' => w'.cell? ⟨tb, 0, none⟩ = some (.int .i64 T.p) ∧ w'.cell? ⟨tb, 1, none⟩ = some (.slice A1 T.js.length c1) ∧ w'.cell? ⟨tb, 2, none⟩ = some (.int .i64 T.g) ∧ w'.cell? ⟨tb, 3, none⟩ = some (.int .i64 T.o) ∧ w'.cell? ⟨tb, 4, none⟩ = some (.int .i64 T.l) ∧ w'.cell? ⟨tb, 5, none⟩ = some (.int .i64 T.d) ∧ w'.cell? ⟨tb, 6, none⟩ = some (.int .i64 T.c) ∧ w'.cell? ⟨tb, 7, none⟩ = some (.int .i64 T.t) ∧ w'.cell? ⟨b, o + j * 8, none⟩ = some (.int .i64 U.p) ∧ RN w tb T (.slice A1 T.js.length c1) b o j U.p w')
              (first
                | (go_split_ands; exact RN.full (RN.below (by assumption) hb))
                | (go_split_ands; exact RN.full (RN.drew (by assumption))))
              (first
                | (go_at_call 18; go_split_ands; (with_reducible refine (tready_c T (.slice A1 T.js.length c1) true _ (RN.t (by assumption)).tr HRD.out).mono ?_); rintro e w' ⟨rfl, hb⟩)) | fail
            all_goals
              go_split_ands
              have HB2 := Lib.hid (RN.be (by assumption : RN w tb T (.slice A1 T.js.length c1) b o j U.p w'))
              clear HX HB1 HQ0
              go_wp2
              go_roundw
              case rel => exact ⟨k + 1, by omega, by go_num, (k : Int), rfl, HP2, HB2⟩
              case measure => simp [intOf]; omega
          · have t2 : decide (T.p < U.p) = false := decide_eq_false hlp
            have HP2 := Lib.hid (PK.skip hP.out HXK.out (.inr ⟨j, U, u, rfl, hu, by omega⟩))
            clear hj hu
            go_wp2_with fail
            rw [← HW1.out, ← HTB.out]
            first | go_region_held3 (fun w' => w'.cell? ⟨tb, 0, none⟩ = some (.int .i64 T.p) ∧ w'.cell? ⟨tb, 1, none⟩ = some (.slice A1 T.js.length c1) ∧ w'.cell? ⟨tb, 2, none⟩ = some (.int .i64 T.g) ∧ w'.cell? ⟨tb, 3, none⟩ = some (.int .i64 T.o) ∧ w'.cell? ⟨tb, 4, none⟩ = some (.int .i64 T.l) ∧ w'.cell? ⟨tb, 5, none⟩ = some (.int .i64 T.d) ∧ w'.cell? ⟨tb, 6, none⟩ = some (.int .i64 T.c) ∧ w'.cell? ⟨tb, 7, none⟩ = some (.int .i64 T.t) ∧ w'.cell? ⟨b, o + j * 8, none⟩ = some (.int .i64 U.p) ∧ RN w tb T (.slice A1 T.js.length c1) b o j U.p w')
              (first
                | (go_split_ands; exact RN.full (RN.below (by assumption) hb))
                | (go_split_ands; exact RN.full (RN.drew (by assumption))))
              (first
                | (go_at_call 18; go_split_ands; (with_reducible refine (tready_c T (.slice A1 T.js.length c1) true _ (RN.t (by assumption)).tr HRD.out).mono ?_); rintro e w' ⟨rfl, hb⟩)) | fail
            all_goals
              go_split_ands
              have HB2 := Lib.hid (RN.be (by assumption : RN w tb T (.slice A1 T.js.length c1) b o j U.p w'))
              clear HX HB1 HQ0
              go_wp2
              go_roundw
              case rel => exact ⟨k + 1, by omega, by go_num, (j : Int), rfl, HP2, HB2⟩
              case measure => simp [intOf]; omega
    · obtain rfl : k = n := by omega
      go_wp2
      go_ret
      exact ⟨z, rfl, hP.out, hB.out⟩

end Go.Proofs.YtkfjlkpickeobaaDoor
