/- The law's sameSlots: a table and the reference's. -/
import Derived.Test.YtgjlkplieoajlaaDoorSl9
set_option linter.unusedVariables false
set_option linter.unusedSimpArgs false
namespace Go.Proofs.YtgjlkplieoajlaaDoor
open Go.RowKit
open Go.Proofs.YtgjlkplieoajlaaDoorW.PrintWords (Kd Drawn0 Kept rd rdOf)
open Go.Proofs.YtgjlkplieoajlaaDoor.PSlotsTwins
set_option maxRecDepth 100000

theorem int_cell {e : TypeId} {w : World} {b : Nat} {ok : Nat → Prop} {g n cap : Nat} {xs : List Int} (h : (Kd.int .i64).R e w b ok (.slice (some ⟨g, 0, none⟩) n cap) xs) {i : Nat} {x : Int} (hx : xs[i]? = some x) : w.cell? ⟨g, i, none⟩ = some (.int .i64 x) := by
  obtain ⟨rfl, -, -⟩ := Kd.R_reads' h
  have ho := Kd.own_of_R h
  have hi := (List.getElem?_eq_some_iff.1 hx).1
  have hc := ho.cellAt i (by rw [Nat.mul_one]; exact hi)
  rw [hc]
  simp [YtgjlkplieoajlaaDoorW.PrintWords.encs, hx]
theorem bool_cell {e : TypeId} {w : World} {b : Nat} {ok : Nat → Prop} {g n cap : Nat} {xs : List Bool} (h : Kd.bool.R e w b ok (.slice (some ⟨g, 0, none⟩) n cap) xs) {i : Nat} {x : Bool} (hx : xs[i]? = some x) : w.cell? ⟨g, i, none⟩ = some (.bool x) := by
  obtain ⟨rfl, -, -⟩ := Kd.R_reads' h
  have ho := Kd.own_of_R h
  have hi := (List.getElem?_eq_some_iff.1 hx).1
  have hc := ho.cellAt i (by rw [Nat.mul_one]; exact hi)
  rw [hc]
  simp [YtgjlkplieoajlaaDoorW.PrintWords.encs, hx]

theorem handles_l {n : Nat} (hn : n ≤ 4096) {l : List Int} (hl : l.length = n) : ∀ (d k j : Nat), j + d = n → d < k → tithelaw03_handles.l0 k l l (j : Int) = some true := by
  intro d
  induction d with
  | zero =>
    intro k j hj hk
    obtain ⟨k, rfl⟩ : ∃ m, k = m + 1 := ⟨k - 1, by omega⟩
    simp only [tithelaw03_handles.l0]
    rw [if_neg (by omega)]
  | succ d ih =>
    intro k j hj hk
    obtain ⟨k, rfl⟩ : ∃ m, k = m + 1 := ⟨k - 1, by omega⟩
    simp only [tithelaw03_handles.l0]
    rw [if_pos (by omega), if_pos (by omega), if_pos (by omega), if_pos trivial, wrap_nat (by omega)]
    exact ih k (j + 1) (by omega) (by omega)

theorem allH_le {kind : Int} {n : Nat} {xs : List Sl} (hT : Tk kind n xs) : (allH kind xs).length ≤ 4096 := by
  have := allF_le kind xs 0
  have := hT.len; have := hT.n1
  unfold allH; omega

theorem handles_c {e1 e2 : TypeId} {b1 b2 : Nat} {o1 o2 : Nat → Prop} {A1 A2 : Option Addr} {n1 n2 c1 c2 : Nat} {l : List Int} {w : World} (hl : l.length ≤ 4096) (h1 : (Kd.int .i64).R e1 w b1 o1 (.slice A1 n1 c1) l) (h2 : (Kd.int .i64).R e2 w b2 o2 (.slice A2 n2 c2) l) :
    Calls Tryd.prog 40 #[.slice A1 n1 c1, .slice A2 n2 c2] w fun e w' => e = .returned (.bool true) ∧ Below w.heap.size w w' := by
  have a1 := Kd.R_reads' h1
  have a2 := Kd.R_reads' h2
  obtain ⟨rfl, -, -⟩ := id a1
  obtain ⟨rfl, -, -⟩ := id a2
  have := tithelaw03_handles.calls 5000 A1 c1 l A2 c2 l true w a1.2.2 a1.2.1 a2.2.2 a2.2.1 (by
    unfold tithelaw03_handles.f
    rw [if_pos rfl]
    exact handles_l hl rfl l.length 5000 0 (by omega) (by omega))
  refine this.mono ?_
  rintro e w' ⟨rfl, ⟨m, rfl⟩⟩
  exact ⟨rfl, below_drewN' (Below.refl _ w) m⟩

set_option maxHeartbeats 2000000 in
theorem same_ok (t g n cap B : Nat) (kind : Int) (A1 : Option Addr) (c1 : Nat) (A2 : Option Addr) (c2 : Nat) (A3 : Option Addr) (c3 : Nat) (xs : List Sl) (w : World) (H : TB w t g n cap kind xs) (hT : Tk kind n xs) (R : RT w B n A1 c1 A2 c2 A3 c3 xs) :
    Calls Tryd.prog 12 #[.pointer (some ⟨t, 0, none⟩), .agg #[.int .i64 kind, .slice A1 n c1, .slice A2 n c2, .slice A3 n c3]] w fun e w' => e = .returned (.bool true) ∧ Below w.heap.size w w' := by
  have n0 := hT.n0
  have n1 := hT.n1
  have hl := H.len
  obtain ⟨g1, d1, e1, -⟩ := Kd.R_form R.r1 (by simp; omega)
  obtain ⟨g2, d2, e2, -⟩ := Kd.R_form R.r2 (by simp; omega)
  simp only [Value.slice.injEq, List.length_map, hl] at e1 e2
  obtain ⟨rfl, -, rfl⟩ := e1
  obtain ⟨rfl, -, rfl⟩ := e2
  have HB0 := Lib.hid (below_alloc (Below.refl w.heap.size w) (Nat.le_refl _) (.cells #[.int .i64 kind, .slice (some ⟨g1, 0, none⟩) n c1, .slice (some ⟨g2, 0, none⟩) n c2, .slice A3 n c3] 30))
  have q0 : (w.alloc (.cells #[.int .i64 kind, .slice (some ⟨g1, 0, none⟩) n c1, .slice (some ⟨g2, 0, none⟩) n c2, .slice A3 n c3] 30)).cell? ⟨w.heap.size, 0, none⟩ = some (.int .i64 kind) := by simp
  have q1 : (w.alloc (.cells #[.int .i64 kind, .slice (some ⟨g1, 0, none⟩) n c1, .slice (some ⟨g2, 0, none⟩) n c2, .slice A3 n c3] 30)).cell? ⟨w.heap.size, 1, none⟩ = some (.slice (some ⟨g1, 0, none⟩) n c1) := by simp
  have q2 : (w.alloc (.cells #[.int .i64 kind, .slice (some ⟨g1, 0, none⟩) n c1, .slice (some ⟨g2, 0, none⟩) n c2, .slice A3 n c3] 30)).cell? ⟨w.heap.size, 2, none⟩ = some (.slice (some ⟨g2, 0, none⟩) n c2) := by simp
  have q3 : (w.alloc (.cells #[.int .i64 kind, .slice (some ⟨g1, 0, none⟩) n c1, .slice (some ⟨g2, 0, none⟩) n c2, .slice A3 n c3] 30)).cell? ⟨w.heap.size, 3, none⟩ = some (.slice A3 n c3) := by simp
  have HH := Lib.hid H
  have HT := Lib.hid hT
  have HR := Lib.hid R
  clear H hT R hl
  go_enter Tryd.func12, Tryd.ntmps12
  go_wp2_with fail
  refine (slots_ok t g n cap kind xs _ (HH.out.below HB0.out) HT.out).mono ?_
  rintro e w1 ⟨v, u, rfl, hv, hu, hb⟩
  obtain ⟨gv, cv, rfl, -⟩ := Kd.R_form hv (by simp [HH.out.len]; omega)
  obtain ⟨gu, cu, rfl, -⟩ := Kd.R_form hu (by simp [HH.out.len]; omega)
  simp only [List.length_map, HH.out.len] at hv hu ⊢
  have HV := Lib.hid hv
  have HU := Lib.hid hu
  replace q0 := keep hb q0
  replace q1 := keep hb q1
  replace q2 := keep hb q2
  replace q3 := keep hb q3
  have HB1 := Lib.hid (HB0.out.trans (hb.mono (by simp)))
  clear hv hu hb
  have HH1 := Lib.hid (HH.out.below HB1.out)
  have HR1 := Lib.hid (HR.out.below HB1.out)
  clear HH HR HB0
  go_wp2
  go_loopw [7] (fun i wr => ∃ k : Nat, k ≤ n ∧ i = .int .i64 k ∧ Hid (∃ m, wr = w1.drewN m)) (fun i _ => n - (intOf i).toNat)
  case atStart => exact ⟨0, Nat.zero_le _, rfl, Lib.hid ⟨0, rfl⟩⟩
  case round =>
    obtain ⟨k, hk, rfl, hd⟩ := hrel
    by_cases hlt : k < n
    · obtain ⟨x, hx⟩ : ∃ x, xs[k]? = some x := ⟨xs[k]'(by have := HH1.out.len; omega), List.getElem?_eq_getElem _⟩
      have hw := hd.out
      obtain ⟨m, hm⟩ := hw
      have k1 : wr.cell? ⟨gv, k, none⟩ = some (.int .i64 x.f0) := by rw [hm]; exact int_cell HV.out (by simp [hx])
      have k2 : wr.cell? ⟨gu, k, none⟩ = some (.bool x.f1) := by rw [hm]; exact bool_cell HU.out (by simp [hx])
      have k3 : wr.cell? ⟨g1, k, none⟩ = some (.int .i64 x.f0) := by rw [hm]; exact int_cell HR1.out.r1 (by simp [hx])
      have k4 : wr.cell? ⟨g2, k, none⟩ = some (.bool x.f1) := by rw [hm]; exact bool_cell HR1.out.r2 (by simp [hx])
      have p1 : wr.cell? ⟨w.heap.size, 1, none⟩ = some (.slice (some ⟨g1, 0, none⟩) n c1) := by rw [hm]; exact q1
      have p2 : wr.cell? ⟨w.heap.size, 2, none⟩ = some (.slice (some ⟨g2, 0, none⟩) n c2) := by rw [hm]; exact q2
      clear hm hx
      generalize x.f0 = a0 at k1 k3
      generalize x.f1 = a1 at k2 k4
      go_wp2_with (go_quiet (fail))
      go_roundw
      case rel => exact ⟨k + 1, by omega, by go_num, Lib.hid (by obtain ⟨m', e⟩ := hd.out; rw [e]; exact ⟨_, World.drewN_drewN ..⟩)⟩
      case measure => simp [intOf]; omega
    · have p0 : wr.cell? ⟨w.heap.size, 0, none⟩ = some (.int .i64 kind) := by obtain ⟨m, e⟩ := hd.out; rw [e]; exact q0
      have p1 : wr.cell? ⟨w.heap.size, 1, none⟩ = some (.slice (some ⟨g1, 0, none⟩) n c1) := by obtain ⟨m, e⟩ := hd.out; rw [e]; exact q1
      have p2 : wr.cell? ⟨w.heap.size, 2, none⟩ = some (.slice (some ⟨g2, 0, none⟩) n c2) := by obtain ⟨m, e⟩ := hd.out; rw [e]; exact q2
      have p3 : wr.cell? ⟨w.heap.size, 3, none⟩ = some (.slice A3 n c3) := by obtain ⟨m, e⟩ := hd.out; rw [e]; exact q3
      have HBr := Lib.hid (show Below w.heap.size w wr by obtain ⟨m, e⟩ := hd.out; rw [e]; exact below_drewN' HB1.out m)
      have HHr := Lib.hid (show TB wr t g n cap kind xs by obtain ⟨m, e⟩ := hd.out; rw [e]; exact HH1.out.drewN m)
      have HRr := Lib.hid (show RT wr B n (some ⟨g1, 0, none⟩) c1 (some ⟨g2, 0, none⟩) c2 A3 c3 xs by obtain ⟨m, e⟩ := hd.out; rw [e]; exact HR1.out.below (below_drewN' (Below.refl _ w1) m))
      clear q0 q1 q2 q3 hd HB1 HH1 HR1 HV HU
      have HALL := Lib.hid (fun W (h : Below wr.heap.size wr W) => all_ok t g n cap kind xs W (HHr.out.below h) HT.out)
      have HLEN := Lib.hid (fun W (h : Below wr.heap.size wr W) => len_ok t g n cap kind xs W (HHr.out.below h) HT.out)
      have HRALL := Lib.hid (fun W (h : Below wr.heap.size wr W) => rall_c (HRr.out.below h) HT.out)
      clear HHr HRr
      go_wp2_with fail
      go_region_with (first
        | (go_at_call 24; refine (HALL.out _ (by first | exact Below.refl _ _ | exact Below.drew (Below.refl _ _))).mono ?_; rintro e w2 ⟨v2, rfl, hr2, hb2⟩; obtain ⟨Av, cv2, rfl⟩ := Kd.R_slice hr2; (try dsimp only); have p0 := keep hb2 p0; have p1 := keep hb2 p1; have p2 := keep hb2 p2; have p3 := keep hb2 p3; have HR2 := Lib.hid hr2; have HB2 := Lib.hid (show Below wr.heap.size wr w2 from ⟨hb2.os, hb2.tape, hb2.output, hb2.size, hb2.block⟩); clear hr2 hb2)
        | (go_at_call 41; refine (HRALL.out _ HB5.out).mono ?_; rintro e w6 ⟨v6, rfl, hr6, hb6⟩; obtain ⟨Av6, cv6, rfl⟩ := Kd.R_slice hr6; (try dsimp only); have HB6 := Lib.hid (below_call HB5.out (Nat.le_refl _) hb6); clear hr6 hb6)
        | (go_at_call 41; refine (HRALL.out _ HB2.out).mono ?_; rintro e w3 ⟨v3, rfl, hr3, hb3⟩; obtain ⟨Av3, cv3, rfl⟩ := Kd.R_slice hr3; (try dsimp only); have p0 := keep hb3 p0; have p1 := keep hb3 p1; have p2 := keep hb3 p2; have p3 := keep hb3 p3; have HR3 := Lib.hid hr3; have HR23 := Lib.hid (Kd.R_below HR2.out hb3); have HB3 := Lib.hid (below_call HB2.out (Nat.le_refl _) hb3); clear hr3 hb3)
        | (go_at_call 40; refine (handles_c (allH_le HT.out) HR23.out HR3.out).mono ?_; rintro e w4 ⟨rfl, hb4⟩; (try dsimp only); have p0 := keep hb4 p0; have p1 := keep hb4 p1; have p2 := keep hb4 p2; have p3 := keep hb4 p3; have HB4 := Lib.hid (below_call HB3.out (Nat.le_refl _) hb4); clear hb4)
        | (go_at_call 18; refine (HLEN.out _ (by first | exact HB4.out | exact Below.drew HB4.out)).mono ?_; rintro e w5 ⟨rfl, hb5⟩; (try dsimp only); have p0 := keep hb5 p0; have p1 := keep hb5 p1; have p2 := keep hb5 p2; have p3 := keep hb5 p3; have HB5 := Lib.hid (below_call HB4.out (Nat.le_refl _) hb5); clear hb5)
        | fail)
      all_goals
        go_wp2
        go_ret
        exact ⟨rfl, below_call HBr.out (Nat.le_refl _) HB6.out⟩

end Go.Proofs.YtgjlkplieoajlaaDoor
