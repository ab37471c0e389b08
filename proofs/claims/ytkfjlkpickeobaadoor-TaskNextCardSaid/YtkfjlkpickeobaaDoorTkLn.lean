/- The law TaskNext, by contract. Printed by gen_lnext.py (this repo's). -/
import Derived.Test.YtkfjlkpickeobaaDoorTmE
import Derived.Test.YtkfjlkpickeobaaDoorTkN
import Derived.BigQuiet
import Derived.Deep.QuietTactic
set_option linter.unusedVariables false
set_option linter.unusedSimpArgs false
namespace Go.Proofs.YtkfjlkpickeobaaDoor
open Go.RowKit
open Go.Proofs.YtkfjlkpickeobaaDoorW.PrintWords (Kd Drawn0 Kept rd rdOf ReadsRow)
open Go.Proofs.YtkfjlkpickeobaaDoor.PTaskRuns
set_option maxRecDepth 100000

set_option maxHeartbeats 4000000 in
theorem lnext_ok (A : Option Addr) (n c : Nat) (Ts : List (Tk × Value)) (w : World) (h : TL w A n Ts) (hn : n ≤ 4000000000000) :
    Calls Tryd.prog 6 #[.slice A n c] w fun e w' => e = .returned (.bool true) ∧ Below w.heap.size w w' := by
  have HT := Lib.hid h
  clear h
  go_enter Tryd.func6, Tryd.ntmps6
  go_wp2_with fail
  go_at_call 20
  refine (pick_ok A n c Ts _ HT.out hn).mono ?_
  rintro e w1 ⟨z, rfl, hP, hb⟩
  have HB1 := Lib.hid hb
  clear hb
  rcases hP with ⟨rfl, hP⟩ | ⟨j, U, u, rfl, hjn, hu, hne, hP⟩
  · have t0 : decide ((n : Int) ≤ -1) = false := decide_eq_false (by omega)
    have HP := Lib.hid hP
    clear hP
    go_wp2_with fail
    go_loopw [4] (fun i wr => ∃ k : Nat, k ≤ n ∧ i = .int .i64 k ∧ Hid (Below w.heap.size w wr)) (fun i _ => n - (intOf i).toNat)
    case atStart => exact ⟨0, Nat.zero_le _, rfl, HB1⟩
    case round =>
      obtain ⟨k, hk, rfl, hB⟩ := hrel
      by_cases hlt : k < n
      · obtain ⟨⟨T, v⟩, hx⟩ : ∃ x, Ts[k]? = some x := ⟨_, List.getElem?_eq_getElem (by have := HT.out.1; omega)⟩
        obtain ⟨b, o, rfl, hy⟩ := HT.out.2 k T v hx
        have hj := HP.out k T v hlt hx
        have hyr := hy.below hB.out
        obtain ⟨A1, c1, rfl, -, -⟩ := id hy.tr
        obtain ⟨y0, y1, y2, y3, y4, y5, y6, y7, ytr⟩ := hyr
        have HX := Lib.hid hx
        clear hy hx ytr
        have hj0 : T.js.length = 0 := by rw [hj]; rfl
        rw [hj0] at y1
        go_wp2
        go_roundw
        case rel => exact ⟨k + 1, by omega, by go_num, hB⟩
        case measure => simp [intOf]; omega
      · obtain rfl : k = n := by omega
        go_wp2_with (first
          | (go_at_call 15; refine (works_ok _).mono ?_; rintro e w2 ⟨rfl, hb⟩))
        go_ret
        exact ⟨rfl, below_call hB.out (Nat.le_refl _) hb⟩
  · obtain ⟨b, o, rfl, hy⟩ := HT.out.2 j U u hu
    obtain ⟨A2, c2, rfl, -, -⟩ := id hy.tr
    obtain ⟨x0, x1, x2, x3, x4, x5, x6, x7, xtr⟩ := hy.below HB1.out
    have HXT := Lib.hid xtr
    have HRD := Lib.hid (show decide (0 < U.js.length) = true from decide_eq_true (List.length_pos_iff.2 hne))
    have t0 : decide ((j : Int) < -1) = false := decide_eq_false (by omega)
    have t1 : decide (n ≤ j) = false := decide_eq_false (by omega)
    have t1' : decide ((n : Int) ≤ (j : Int)) = false := decide_eq_false (by omega)
    have t2 : decide ((0 : Int) ≤ (j : Int)) = true := decide_eq_true (by omega)
    have HP := Lib.hid hP
    have HU := Lib.hid hy
    clear hP hy xtr hne hu
    go_wp2_with fail
    go_at_call 18
    refine (tready_c U (.slice A2 U.js.length c2) true _ HXT.out HRD.out).mono ?_
    rintro e w2 ⟨rfl, hb⟩
    replace HB1 := Lib.hid (below_call HB1.out (Nat.le_refl _) hb)
    clear x0 x1 x2 x3 x4 x5 x6 x7 hb HXT
    go_wp2_with fail
    go_loopw [4] (fun i wr => ∃ k : Nat, k ≤ n ∧ i = .int .i64 k ∧ Hid (Below w.heap.size w wr)) (fun i _ => n - (intOf i).toNat)
    case atStart => exact ⟨0, Nat.zero_le _, rfl, HB1⟩
    case round =>
      obtain ⟨k, hk, rfl, hB⟩ := hrel
      by_cases hlt : k < n
      · obtain ⟨⟨T, v⟩, hx⟩ : ∃ x, Ts[k]? = some x := ⟨_, List.getElem?_eq_getElem (by have := HT.out.1; omega)⟩
        obtain ⟨b', o', eb, hy⟩ := HT.out.2 k T v hx
        obtain ⟨rfl, rfl⟩ : b = b' ∧ o = o' := by simpa using eb
        have hyr := hy.below hB.out
        obtain ⟨A1, c1, rfl, -, -⟩ := id hy.tr
        obtain ⟨y0, y1, y2, y3, y4, y5, y6, y7, ytr⟩ := hyr
        have HX := Lib.hid hx
        clear hy hx ytr
        by_cases hj : T.js = []
        · have hj0 : T.js.length = 0 := by rw [hj]; rfl
          rw [hj0] at y1
          go_wp2
          go_roundw
          case rel => exact ⟨k + 1, by omega, by go_num, hB⟩
          case measure => simp [intOf]; omega
        · have hle := HP.out k T _ hlt HX.out hj
          obtain ⟨m, hm⟩ : ∃ m, T.js.length = m := ⟨_, rfl⟩
          have hm0 : decide ((m : Int) = 0) = false := decide_eq_false (by have := List.length_pos_iff.2 hj; omega)
          rw [hm] at y1
          have q1 : decide ((j : Int) < 0) = false := decide_eq_false (by omega)
          have q2 : decide (T.p < U.p) = false := decide_eq_false (by have := hle.1; omega)
          obtain ⟨x0, -⟩ := HU.out.below hB.out
          by_cases he : T.p = U.p
          · have q4 : decide ((k : Int) < (j : Int)) = false := decide_eq_false (by have := hle.2 he; omega)
            have q4' : decide (k < j) = false := decide_eq_false (by have := hle.2 he; omega)
            rw [he] at y0 q2
            clear he hle
            go_wp2_with fail
            · refine ⟨⟨k + 1, by omega, by go_num, hB⟩, ?_⟩
              simp [intOf]; omega
            · go_quiet (fail)
              go_wp2_with fail
              go_roundw
              case rel => exact ⟨k + 1, by omega, by go_num, Lib.hid (below_drewN' hB.out nq)⟩
              case measure => simp [intOf]; omega
          · have q3 : decide (T.p = U.p) = false := decide_eq_false he
            have q5 : (T.p == U.p) = false := by simpa using he
            clear hle
            go_wp2_with fail
            · refine ⟨⟨k + 1, by omega, by go_num, hB⟩, ?_⟩
              simp [intOf]; omega
            · go_quiet (fail)
              go_wp2_with fail
              go_roundw
              case rel => exact ⟨k + 1, by omega, by go_num, Lib.hid (below_drewN' hB.out nq)⟩
              case measure => simp [intOf]; omega
      · obtain rfl : k = n := by omega
        go_wp2_with (first
          | (go_at_call 15; refine (works_ok _).mono ?_; rintro e w2 ⟨rfl, hb⟩))
        go_ret
        exact ⟨rfl, below_call hB.out (Nat.le_refl _) hb⟩

theorem lnext_rd {a : Option Addr} {n c : Nat} {w : World} (h0 : Rd46 w [.slice a n c]) :
    Calls Tryd.prog 6 #[.slice a n c] w fun e w' => e = .returned (.bool true) ∧ Below w.heap.size w w' := by
  obtain ⟨Ts, h, hnc, hn, hl⟩ := tasks_of_rd h0
  exact lnext_ok a n c Ts w h (by omega)

end Go.Proofs.YtkfjlkpickeobaaDoor
