/- The law's sameSlots, sure, step. -/
import Derived.Test.YtgjlkplieoajlaaDoorSmB
set_option linter.unusedVariables false
set_option linter.unusedSimpArgs false
namespace Go.Proofs.YtgjlkplieoajlaaDoor
open Go.RowKit
open Go.Proofs.YtgjlkplieoajlaaDoorW.PrintWords (Kd Drawn0 Kept rd rdOf)
open Go.Proofs.YtgjlkplieoajlaaDoor.PSlotsTwins
set_option maxRecDepth 100000

theorem int_cell {e : TypeId} {w : World} {b : Nat} {ok : Nat → Prop} {g n cap : Nat} {xs : List Int} (h : (Kd.int .i64).R e w b ok (.slice (some ⟨g, 0, none⟩) n cap) xs) {i : Nat} {x : Int} (hx : xs[i]? = some x) : w.cell? ⟨g, i, none⟩ = some (.int .i64 x) := by
  obtain ⟨rfl, -, -⟩ := Kd.R_reads' h
  have ho := Kd.own_of_R h
  have hi := (List.getElem?_eq_some_iff.1 hx).1
  have hc := ho.cellAt i (by rw [Nat.mul_one]; exact hi)
  rw [hc]
  simp [YtgjlkplieoajlaaDoorW.PrintWords.encs, hx]
theorem bool_cell {e : TypeId} {w : World} {b : Nat} {ok : Nat → Prop} {g n cap : Nat} {xs : List Bool} (h : Kd.bool.R e w b ok (.slice (some ⟨g, 0, none⟩) n cap) xs) {i : Nat} {x : Bool} (hx : xs[i]? = some x) : w.cell? ⟨g, i, none⟩ = some (.bool x) := by
  obtain ⟨rfl, -, -⟩ := Kd.R_reads' h
  have ho := Kd.own_of_R h
  have hi := (List.getElem?_eq_some_iff.1 hx).1
  have hc := ho.cellAt i (by rw [Nat.mul_one]; exact hi)
  rw [hc]
  simp [YtgjlkplieoajlaaDoorW.PrintWords.encs, hx]

theorem handles_l {n : Nat} (hn : n ≤ 4096) {l : List Int} (hl : l.length = n) : ∀ (d k j : Nat), j + d = n → d < k → tithelaw03_handles.l0 k l l (j : Int) = some true := by
  intro d
  induction d with
  | zero =>
    intro k j hj hk
    obtain ⟨k, rfl⟩ : ∃ m, k = m + 1 := ⟨k - 1, by omega⟩
    simp only [tithelaw03_handles.l0]
    rw [if_neg (by omega)]
  | succ d ih =>
    intro k j hj hk
    obtain ⟨k, rfl⟩ : ∃ m, k = m + 1 := ⟨k - 1, by omega⟩
    simp only [tithelaw03_handles.l0]
    rw [if_pos (by omega), if_pos (by omega), if_pos (by omega), if_pos trivial, wrap_nat (by omega)]
    exact ih k (j + 1) (by omega) (by omega)

theorem allH_le {kind : Int} {n : Nat} {xs : List Sl} (hT : Tk kind n xs) : (allH kind xs).length ≤ 4096 := by
  have := allF_le kind xs 0
  have := hT.len; have := hT.n1
  unfold allH; omega

theorem handles_c {e1 e2 : TypeId} {b1 b2 : Nat} {o1 o2 : Nat → Prop} {A1 A2 : Option Addr} {n1 n2 c1 c2 : Nat} {l : List Int} {w : World} (hl : l.length ≤ 4096) (h1 : (Kd.int .i64).R e1 w b1 o1 (.slice A1 n1 c1) l) (h2 : (Kd.int .i64).R e2 w b2 o2 (.slice A2 n2 c2) l) :
    Calls Tryd.prog 40 #[.slice A1 n1 c1, .slice A2 n2 c2] w fun e w' => e = .returned (.bool true) ∧ Below w.heap.size w w' := by
  have a1 := Kd.R_reads' h1
  have a2 := Kd.R_reads' h2
  obtain ⟨rfl, -, -⟩ := id a1
  obtain ⟨rfl, -, -⟩ := id a2
  have := tithelaw03_handles.calls 5000 A1 c1 l A2 c2 l true w a1.2.2 a1.2.1 a2.2.2 a2.2.1 (by
    unfold tithelaw03_handles.f
    rw [if_pos rfl]
    exact handles_l hl rfl l.length 5000 0 (by omega) (by omega))
  refine this.mono ?_
  rintro e w' ⟨rfl, ⟨m, rfl⟩⟩
  exact ⟨rfl, below_drewN' (Below.refl _ w) m⟩

set_option maxHeartbeats 2000000 in
theorem same_ok (t g n cap B : Nat) (kind : Int) (A1 : Option Addr) (c1 : Nat) (A2 : Option Addr) (c2 : Nat) (A3 : Option Addr) (c3 : Nat) (xs : List Sl) (w : World) (H : TB w t g n cap kind xs) (hT : Tk kind n xs) (R : RT w B n A1 c1 A2 c2 A3 c3 xs) :
    Calls Tryd.prog 12 #[.pointer (some ⟨t, 0, none⟩), .agg #[.int .i64 kind, .slice A1 n c1, .slice A2 n c2, .slice A3 n c3]] w fun e w' => e = .returned (.bool true) ∧ Below w.heap.size w w' := by
  have n0 := hT.n0
  have n1 := hT.n1
  have hl := H.len
  obtain ⟨g1, d1, e1, -⟩ := Kd.R_form R.r1 (by simp; omega)
  obtain ⟨g2, d2, e2, -⟩ := Kd.R_form R.r2 (by simp; omega)
  simp only [Value.slice.injEq, List.length_map, hl] at e1 e2
  obtain ⟨rfl, -, rfl⟩ := e1
  obtain ⟨rfl, -, rfl⟩ := e2
  have HB0 := Lib.hid (below_alloc (Below.refl w.heap.size w) (Nat.le_refl _) (.cells #[.int .i64 kind, .slice (some ⟨g1, 0, none⟩) n c1, .slice (some ⟨g2, 0, none⟩) n c2, .slice A3 n c3] 30))
  have q0 : (w.alloc (.cells #[.int .i64 kind, .slice (some ⟨g1, 0, none⟩) n c1, .slice (some ⟨g2, 0, none⟩) n c2, .slice A3 n c3] 30)).cell? ⟨w.heap.size, 0, none⟩ = some (.int .i64 kind) := by simp
  have q1 : (w.alloc (.cells #[.int .i64 kind, .slice (some ⟨g1, 0, none⟩) n c1, .slice (some ⟨g2, 0, none⟩) n c2, .slice A3 n c3] 30)).cell? ⟨w.heap.size, 1, none⟩ = some (.slice (some ⟨g1, 0, none⟩) n c1) := by simp
  have q2 : (w.alloc (.cells #[.int .i64 kind, .slice (some ⟨g1, 0, none⟩) n c1, .slice (some ⟨g2, 0, none⟩) n c2, .slice A3 n c3] 30)).cell? ⟨w.heap.size, 2, none⟩ = some (.slice (some ⟨g2, 0, none⟩) n c2) := by simp
  have q3 : (w.alloc (.cells #[.int .i64 kind, .slice (some ⟨g1, 0, none⟩) n c1, .slice (some ⟨g2, 0, none⟩) n c2, .slice A3 n c3] 30)).cell? ⟨w.heap.size, 3, none⟩ = some (.slice A3 n c3) := by simp
  have HH := Lib.hid H
  have HT := Lib.hid hT
  have HR := Lib.hid R
  clear H hT R hl
  go_enter Tryd.func12, Tryd.ntmps12
  go_wp2_with fail
  refine (slots_ok t g n cap kind xs _ (HH.out.below HB0.out) HT.out).mono ?_
  rintro e w1 ⟨v, u, rfl, hv, hu, hb⟩
  obtain ⟨gv, cv, rfl, -⟩ := Kd.R_form hv (by simp [HH.out.len]; omega)
  obtain ⟨gu, cu, rfl, -⟩ := Kd.R_form hu (by simp [HH.out.len]; omega)
  simp only [List.length_map, HH.out.len] at hv hu ⊢
  have HV := Lib.hid hv
  have HU := Lib.hid hu
  replace q0 := keep hb q0
  replace q1 := keep hb q1
  replace q2 := keep hb q2
  replace q3 := keep hb q3
  have HB1 := Lib.hid (HB0.out.trans (hb.mono (by simp)))
  clear hv hu hb
  have HH1 := Lib.hid (HH.out.below HB1.out)
  have HR1 := Lib.hid (HR.out.below HB1.out)
  clear HH HR HB0
  go_wp2
  go_loopw [7] (fun i wr => ∃ k : Nat, k ≤ n ∧ i = .int .i64 k ∧ Hid (∃ m, wr = w1.drewN m)) (fun i _ => n - (intOf i).toNat)
  case atStart => exact ⟨0, Nat.zero_le _, rfl, Lib.hid ⟨0, rfl⟩⟩
  case round =>
    obtain ⟨k, hk, rfl, hd⟩ := hrel
    by_cases hlt : k < n
    · obtain ⟨x, hx⟩ : ∃ x, xs[k]? = some x := ⟨xs[k]'(by have := HH1.out.len; omega), List.getElem?_eq_getElem _⟩
      have hw := hd.out
      obtain ⟨m, hm⟩ := hw
      have k1 : wr.cell? ⟨gv, k, none⟩ = some (.int .i64 x.f0) := by rw [hm]; exact int_cell HV.out (by simp [hx])
      have k2 : wr.cell? ⟨gu, k, none⟩ = some (.bool x.f1) := by rw [hm]; exact bool_cell HU.out (by simp [hx])
      have k3 : wr.cell? ⟨g1, k, none⟩ = some (.int .i64 x.f0) := by rw [hm]; exact int_cell HR1.out.r1 (by simp [hx])
      have k4 : wr.cell? ⟨g2, k, none⟩ = some (.bool x.f1) := by rw [hm]; exact bool_cell HR1.out.r2 (by simp [hx])
      have p1 : wr.cell? ⟨w.heap.size, 1, none⟩ = some (.slice (some ⟨g1, 0, none⟩) n c1) := by rw [hm]; exact q1
      have p2 : wr.cell? ⟨w.heap.size, 2, none⟩ = some (.slice (some ⟨g2, 0, none⟩) n c2) := by rw [hm]; exact q2
      clear hm hx
      generalize x.f0 = a0 at k1 k3
      generalize x.f1 = a1 at k2 k4
      go_wp2_with (go_quiet (fail))
      go_roundw
      case rel => exact ⟨k + 1, by omega, by go_num, Lib.hid (by obtain ⟨m', e⟩ := hd.out; rw [e]; exact ⟨_, World.drewN_drewN ..⟩)⟩
      case measure => simp [intOf]; omega
    · have p0 : wr.cell? ⟨w.heap.size, 0, none⟩ = some (.int .i64 kind) := by obtain ⟨m, e⟩ := hd.out; rw [e]; exact q0
      have p1 : wr.cell? ⟨w.heap.size, 1, none⟩ = some (.slice (some ⟨g1, 0, none⟩) n c1) := by obtain ⟨m, e⟩ := hd.out; rw [e]; exact q1
      have p2 : wr.cell? ⟨w.heap.size, 2, none⟩ = some (.slice (some ⟨g2, 0, none⟩) n c2) := by obtain ⟨m, e⟩ := hd.out; rw [e]; exact q2
      have p3 : wr.cell? ⟨w.heap.size, 3, none⟩ = some (.slice A3 n c3) := by obtain ⟨m, e⟩ := hd.out; rw [e]; exact q3
      have HBr := Lib.hid (show Below w.heap.size w wr by obtain ⟨m, e⟩ := hd.out; rw [e]; exact below_drewN' HB1.out m)
      have HHr := Lib.hid (show TB wr t g n cap kind xs by obtain ⟨m, e⟩ := hd.out; rw [e]; exact HH1.out.drewN m)
      have HRr := Lib.hid (show RT wr B n (some ⟨g1, 0, none⟩) c1 (some ⟨g2, 0, none⟩) c2 A3 c3 xs by obtain ⟨m, e⟩ := hd.out; rw [e]; exact HR1.out.below (below_drewN' (Below.refl _ w1) m))
      clear q0 q1 q2 q3 hd HB1 HH1 HR1 HV HU
      have HALL := Lib.hid (fun W (h : Below wr.heap.size wr W) => all_ok t g n cap kind xs W (HHr.out.below h) HT.out)
      have HLEN := Lib.hid (fun W (h : Below wr.heap.size wr W) => len_ok t g n cap kind xs W (HHr.out.below h) HT.out)
      have HRALL := Lib.hid (fun W (h : Below wr.heap.size wr W) => rall_c (HRr.out.below h) HT.out)
      clear HHr HRr
      go_wp2_with fail
      go_region_with (first
        | (go_at_call 24; refine (HALL.out _ (by first | exact Below.refl _ _ | exact Below.drew (Below.refl _ _))).mono ?_; rintro e w2 ⟨v2, rfl, hr2, hb2⟩; obtain ⟨Av, cv2, rfl⟩ := Kd.R_slice hr2; (try dsimp only); have p0 := keep hb2 p0; have p1 := keep hb2 p1; have p2 := keep hb2 p2; have p3 := keep hb2 p3; have HR2 := Lib.hid hr2; have HB2 := Lib.hid (show Below wr.heap.size wr w2 from ⟨hb2.os, hb2.tape, hb2.output, hb2.size, hb2.block⟩); clear hr2 hb2)
        | (go_at_call 41; refine (HRALL.out _ HB5.out).mono ?_; rintro e w6 ⟨v6, rfl, hr6, hb6⟩; obtain ⟨Av6, cv6, rfl⟩ := Kd.R_slice hr6; (try dsimp only); have HB6 := Lib.hid (below_call HB5.out (Nat.le_refl _) hb6); clear hr6 hb6)
        | (go_at_call 41; refine (HRALL.out _ HB2.out).mono ?_; rintro e w3 ⟨v3, rfl, hr3, hb3⟩; obtain ⟨Av3, cv3, rfl⟩ := Kd.R_slice hr3; (try dsimp only); have p0 := keep hb3 p0; have p1 := keep hb3 p1; have p2 := keep hb3 p2; have p3 := keep hb3 p3; have HR3 := Lib.hid hr3; have HR23 := Lib.hid (Kd.R_below HR2.out hb3); have HB3 := Lib.hid (below_call HB2.out (Nat.le_refl _) hb3); clear hr3 hb3)
        | (go_at_call 40; refine (handles_c (allH_le HT.out) HR23.out HR3.out).mono ?_; rintro e w4 ⟨rfl, hb4⟩; (try dsimp only); have p0 := keep hb4 p0; have p1 := keep hb4 p1; have p2 := keep hb4 p2; have p3 := keep hb4 p3; have HB4 := Lib.hid (below_call HB3.out (Nat.le_refl _) hb4); clear hb4)
        | (go_at_call 18; refine (HLEN.out _ (by first | exact HB4.out | exact Below.drew HB4.out)).mono ?_; rintro e w5 ⟨rfl, hb5⟩; (try dsimp only); have p0 := keep hb5 p0; have p1 := keep hb5 p1; have p2 := keep hb5 p2; have p3 := keep hb5 p3; have HB5 := Lib.hid (below_call HB4.out (Nat.le_refl _) hb5); clear hb5)
        | fail)
      all_goals
        go_wp2
        go_ret
        exact ⟨rfl, below_call HBr.out (Nat.le_refl _) HB6.out⟩

end Go.Proofs.YtgjlkplieoajlaaDoor

set_option linter.unusedVariables false
set_option linter.unusedSimpArgs false
namespace Go.Proofs.YtgjlkplieoajlaaDoor
open Go.RowKit
open Go.Proofs.YtgjlkplieoajlaaDoorW.PrintWords (Kd Drawn0 Kept rd rdOf)
open Go.Proofs.YtgjlkplieoajlaaDoor.PSlotsTwins
set_option maxRecDepth 100000

theorem rmake_q (k s g : Int) (w : World) (hk0 : 1 ≤ k) (hk3 : k ≤ 3) (hs0 : 0 ≤ s) (hs1 : s < 1048576) (hg0 : 0 ≤ g) (hg1 : g < 1048576) :
    Calls Tryd.prog 42 #[.int .i64 k, .int .i64 s, .int .i64 g] w fun e w' => e = .returned (.int .i64 (mk k s g)) ∧ Below w.heap.size w w' :=
  (titheref03_Make.calls k s g _ w (show titheref03_Make.f k s g = some (mk k s g) by unfold titheref03_Make.f; rw [or_mk k s g hk0 hk3 hs0 hs1 hg0 hg1])).mono fun _ _ h => ⟨h.1, by obtain ⟨m, e⟩ := h.2.out; rw [e]; exact below_drewN' (Below.refl _ w) m⟩

theorem sure03_ok (w : World) : Calls Tryd.prog 13 #[] w fun e w' => e = .returned (.bool true) ∧ Below w.heap.size w w' := by
  go_enter Tryd.func13, Tryd.ntmps13
  go_wp2_with fail
  refine (snew_ok 1 2 w (by omega) (by omega) (by omega) (by omega)).mono ?_
  rintro e w1 ⟨t, g, cap, rfl, hT, ht, hg, hb⟩
  have HT := Lib.hid hT
  have HB := Lib.hid hb
  clear hT hb
  go_wp2_with fail
  have TK : Tk 1 2 (List.replicate 2 oneSl) := Tk.one (by omega) (by omega) (by omega) (by omega)
  refine (add_hit t g 2 cap 0 1 7 _ oneSl w1 HT.out TK rfl ⟨rfl, by decide⟩ (fun j y hj => by omega)).mono ?_
  rintro e w2 ⟨rfl, hT2, hc2⟩
  have HT2 := Lib.hid hT2
  have HB2 := Lib.hid (HB.out.trans (hc2.below HB.out.size (fun k hk => by rw [hk]; exact hg)))
  clear hT2 hc2 HT HB
  have TK2 := Lib.hid (TK.set 0 ⟨oneSl.f0, true, 7⟩ (by decide) (by decide) (fun _ => by decide) (fun f => by simp at f))
  clear TK
  have e1 : mk 1 ((0 : Nat) : Int) oneSl.f0 = mk 1 0 1 := rfl
  rw [e1]
  clear e1
  have HG := Lib.hid (get_hit t g 2 cap 0 1 (mk 1 0 1) _ ⟨oneSl.f0, true, 7⟩ w2 HT2.out TK2.out ⟨rfl, rfl, rfl⟩)
  have HM := Lib.hid (fun W => rmake_q 1 0 1 W (by omega) (by omega) (by omega) (by omega) (by omega) (by omega))
  generalize mk 1 0 1 = h at HG HM ⊢
  go_wp2_with fail
  refine HG.out.mono ?_
  rintro e w3 ⟨rfl, m, hw⟩
  have HB3 := Lib.hid (show Below w.heap.size w w3 by rw [hw]; exact below_drewN' HB2.out m)
  clear hw HT2 HB2 HG
  go_wp2_with fail
  refine (HM.out _).mono ?_
  rintro e w4 ⟨rfl, hb4⟩
  have HB4 := Lib.hid (below_call HB3.out (Nat.le_refl _) hb4)
  clear hb4 HB3
  go_wp2
  go_ret
  exact ⟨rfl, HB4.out⟩

end Go.Proofs.YtgjlkplieoajlaaDoor

set_option linter.unusedVariables false
set_option linter.unusedSimpArgs false
namespace Go.Proofs.YtgjlkplieoajlaaDoor
open Go.RowKit
open Go.Proofs.YtgjlkplieoajlaaDoorW.PrintWords (Kd Drawn0 Kept rd rdOf)
open Go.Proofs.YtgjlkplieoajlaaDoor.PSlotsTwins
set_option maxRecDepth 100000

/-- What num tells of an error. -/
def NumV (ev : Value) (er : Int) : Prop := (ev = .nilIface ∧ er = 0) ∨ ev = .iface 85 (.int .i64 er)
theorem num_any {ev : Value} {er : Int} (h : NumV ev er) (w : World) (hL : Laid w) : Calls Tryd.prog 11 #[ev] w fun e w' => e = .returned (.int .i64 er) ∧ Below w.heap.size w w' := by
  rcases h with ⟨rfl, rfl⟩ | rfl
  · exact num03_nil w
  · exact num03_err er w hL
theorem Laid.chg {w w' : World} {S : Nat → Prop} (h : Laid w) (hc : Chg S w w') (hn : ¬ S 0) : Laid w' := by
  unfold Laid at h ⊢
  have := hc.block _ (Laid.lt h) hn
  simpa [World.cell?, this] using h

section
variable {w : World} {t g n cap : Nat} {kind : Int} {xs : List Sl}
theorem chg_q {w w' : World} {S : Nat → Prop} (h : ∃ m, w' = w.drewN m) : Chg S w w' := by
  obtain ⟨m, rfl⟩ := h
  exact (Chg.refl S w).drewN m
theorem TB.q {w' : World} (h : TB w t g n cap kind xs) (hd : ∃ m, w' = w.drewN m) : TB w' t g n cap kind xs := by
  obtain ⟨m, rfl⟩ := hd
  exact h.drewN m

theorem first_free : ∀ (xs : List Sl), (∃ (i : Nat) (x : Sl), xs[i]? = some x ∧ FreeSl x ∧ ∀ (j : Nat) (y : Sl), j < i → xs[j]? = some y → ¬ FreeSl y) ∨ (∀ (j : Nat) (y : Sl), xs[j]? = some y → ¬ FreeSl y)
  | [] => .inr (fun j y h => by simp at h)
  | x :: r => by
    by_cases hx : FreeSl x
    · exact .inl ⟨0, x, rfl, hx, fun j y h => by omega⟩
    · rcases first_free r with ⟨i, y, h1, h2, h3⟩ | h
      · refine .inl ⟨i + 1, y, h1, h2, ?_⟩
        intro j z hj hz
        match j with
        | 0 => simp at hz; subst hz; exact hx
        | j + 1 => exact h3 j z (by omega) hz
      · refine .inr ?_
        intro j z hz
        match j with
        | 0 => simp at hz; subst hz; exact hx
        | j + 1 => exact h j z hz

theorem add_any (hT : Tk kind n xs) (v : Int) : ∃ (ys : List Sl) (h er : Int) (ev : Value), NumV ev er ∧ Tk kind n ys ∧ titheref03_Add.f 5000 kind (gens xs) (tks xs) (ths xs) v = some (kind, gens ys, tks ys, ths ys, h, er) ∧
    ∀ w, TB w t g n cap kind xs → Calls Tryd.prog 15 #[.pointer (some ⟨t, 0, none⟩), .int .i64 v] w fun e w' => e = .returned (.tuple #[.int .i64 h, ev]) ∧ TB w' t g n cap kind ys ∧ Chg (fun k => k = g) w w' := by
  rcases first_free xs with ⟨i, x, h1, h2, h3⟩ | h
  · exact ⟨_, _, _, _, .inl ⟨rfl, rfl⟩, hT.set i ⟨x.f0, true, v⟩ (hT.gen i x h1).1 (hT.gen i x h1).2 (fun _ => h2.2) (fun f => by simp at f), radd_hit hT h1 h2 h3, fun w H => add_hit t g n cap i kind v xs x w H hT h1 h2 h3⟩
  · refine ⟨xs, _, _, _, .inr rfl, hT, radd_none hT h, fun w H => (add_full t g n cap kind v xs w H hT h).mono ?_⟩
    rintro e w' ⟨rfl, rfl⟩
    exact ⟨rfl, H, Chg.refl _ w⟩

theorem get_any (hT : Tk kind n xs) (h : Int) : ∃ (r er : Int) (ev : Value), NumV ev er ∧ titheref03_Get.f 5000 kind (gens xs) (tks xs) (ths xs) h = some (r, er) ∧
    ∀ w, TB w t g n cap kind xs → Calls Tryd.prog 16 #[.pointer (some ⟨t, 0, none⟩), .int .i64 h] w fun e w' => e = .returned (.tuple #[.int .i64 r, ev]) ∧ TB w' t g n cap kind xs ∧ Chg (fun k => k = g) w w' := by
  rcases at_or kind h xs with ⟨i, x, ha⟩ | ha
  · exact ⟨_, _, _, .inl ⟨rfl, rfl⟩, rget_hit hT ha, fun w H => (get_hit t g n cap i kind h xs x w H hT ha).mono fun _ _ k => ⟨k.1, H.q k.2, chg_q k.2⟩⟩
  · exact ⟨_, _, _, .inr rfl, rget_none hT ha, fun w H => (get_miss t g n cap kind h xs w H hT ha).mono fun _ _ k => ⟨k.1, H.q k.2, chg_q k.2⟩⟩

theorem set_any (hT : Tk kind n xs) (h v : Int) : ∃ (ys : List Sl) (er : Int) (ev : Value), NumV ev er ∧ Tk kind n ys ∧ titheref03_Set.f 5000 kind (gens xs) (tks xs) (ths xs) h v = some (kind, gens ys, tks ys, ths ys, er) ∧
    ∀ w, TB w t g n cap kind xs → Calls Tryd.prog 17 #[.pointer (some ⟨t, 0, none⟩), .int .i64 h, .int .i64 v] w fun e w' => e = .returned ev ∧ TB w' t g n cap kind ys ∧ Chg (fun k => k = g) w w' := by
  rcases at_or kind h xs with ⟨i, x, ha⟩ | ha
  · exact ⟨_, _, _, .inl ⟨rfl, rfl⟩, hT.set i ⟨x.f0, x.f1, v⟩ (hT.gen i x ha.1).1 (hT.gen i x ha.1).2 (hT.top i x ha.1) (fun f => by rw [ha.2.1] at f; simp at f), rset_hit hT ha, fun w H => set_hit t g n cap i kind h v xs x w H hT ha⟩
  · exact ⟨xs, _, _, .inr rfl, hT, rset_none hT ha, fun w H => (set_miss t g n cap kind h v xs w H hT ha).mono fun _ _ k => ⟨k.1, H.q k.2, chg_q k.2⟩⟩

theorem drop_any (hT : Tk kind n xs) (h : Int) : ∃ (ys : List Sl) (er : Int) (ev : Value), NumV ev er ∧ Tk kind n ys ∧ titheref03_Drop.f 5000 kind (gens xs) (tks xs) (ths xs) h = some (kind, gens ys, tks ys, ths ys, er) ∧
    ∀ w, TB w t g n cap kind xs → Calls Tryd.prog 14 #[.pointer (some ⟨t, 0, none⟩), .int .i64 h] w fun e w' => e = .returned ev ∧ TB w' t g n cap kind ys ∧ Chg (fun k => k = g) w w' := by
  rcases at_or kind h xs with ⟨i, x, ha⟩ | ha
  · have hg := hT.gen i x ha.1
    have hf := hT.top i x ha.1 ha.2.1
    exact ⟨_, _, _, .inl ⟨rfl, rfl⟩, hT.set i ⟨x.f0 + 1, false, 0⟩ (by show 1 ≤ x.f0 + 1; omega) (by show x.f0 + 1 ≤ 1024; omega) (fun f => by simp at f) (fun _ => rfl), rdrop_hit hT ha, fun w H => drop_hit t g n cap i kind h xs x w H hT ha⟩
  · exact ⟨xs, _, _, .inr rfl, hT, rdrop_none hT ha, fun w H => (drop_miss t g n cap kind h xs w H hT ha).mono fun _ _ k => ⟨k.1, H.q k.2, chg_q k.2⟩⟩
end

theorem keepc {S : Nat → Prop} {w w1 : World} (hc : Chg S w w1) {b o : Nat} {v : Value} (hn : ¬ S b) (h : w.cell? ⟨b, o, none⟩ = some v) : w1.cell? ⟨b, o, none⟩ = some v := by
  have := hc.block b (World.block_lt_of_cell? w _ h) hn
  simpa [World.cell?, this] using h
theorem keepfc {S : Nat → Prop} {w w1 : World} (hc : Chg S w w1) {b o : Nat} {v : Bool} (hn : ¬ S b) (hlt : b < w.heap.size) (h : w.frozen? ⟨b, o, none⟩ = v) : w1.frozen? ⟨b, o, none⟩ = v := by
  have := hc.block b hlt hn
  simpa [World.frozen?, this] using h

end Go.Proofs.YtgjlkplieoajlaaDoor

set_option linter.unusedVariables false
set_option linter.unusedSimpArgs false
namespace Go.Proofs.YtgjlkplieoajlaaDoor
open Go.RowKit
open Go.Proofs.YtgjlkplieoajlaaDoorW.PrintWords (Kd Drawn0 Kept rd rdOf)
open Go.Proofs.YtgjlkplieoajlaaDoor.PSlotsTwins
set_option maxRecDepth 100000

/-- What a step leaves. -/
def StepPost (w : World) (t g n cap B : Nat) (kind : Int) (S : Nat → Prop) (e : Ending) (w' : World) : Prop :=
  ∃ (ys : List Sl) (B1 : Option Addr) (d1 : Nat) (B2 : Option Addr) (d2 : Nat) (B3 : Option Addr) (d3 : Nat), e = .returned (.tuple #[.agg #[.int .i64 kind, .slice B1 n d1, .slice B2 n d2, .slice B3 n d3], .bool true]) ∧
    TB w' t g n cap kind ys ∧ Tk kind n ys ∧ RT w' B n B1 d1 B2 d2 B3 d3 ys ∧ Chg S w w'

/-- A step's three blocks: the table that came, the operation, the result. -/
structure StB (w W : World) (kind : Int) (s1 s2 s3 : Value) (kd h v : Int) : Prop where
  rb : W.heap[w.heap.size]? = some (.cells #[.int .i64 kind, s1, s2, s3] 30 (0, 0))
  ob : W.heap[w.heap.size + 1]? = some (.cells #[.int .i64 kd, .int .i64 h, .int .i64 v] 41 (0, 0))
  zb : W.heap[w.heap.size + 2]? = some (.cells #[.int .i64 0, .slice none 0 0, .slice none 0 0, .slice none 0 0] 30 (0, 0))
section
variable {w W W' : World} {kind : Int} {s1 s2 s3 : Value} {kd h v : Int}
theorem StB.later (X : StB w W kind s1 s2 s3 kd h v) {S : Nat → Prop} (hc : Chg S W W') (hS : ∀ k, S k → k < w.heap.size) : StB w W' kind s1 s2 s3 kd h v :=
  ⟨hc.heap X.rb (fun k => by have := hS _ k; omega), hc.heap X.ob (fun k => by have := hS _ k; omega), hc.heap X.zb (fun k => by have := hS _ k; omega)⟩
theorem StB.below (X : StB w W kind s1 s2 s3 kd h v) (hb : Below W.heap.size W W') : StB w W' kind s1 s2 s3 kd h v := X.later (Chg.ofBelow hb (fun _ => False)) (fun _ f => f.elim)
theorem StB.new (w : World) (kind : Int) (s1 s2 s3 : Value) (kd h v : Int) : StB w (((w.alloc (.cells #[.int .i64 kind, s1, s2, s3] 30)).alloc (.cells #[.int .i64 kd, .int .i64 h, .int .i64 v] 41)).alloc (.cells #[.int .i64 0, .slice none 0 0, .slice none 0 0, .slice none 0 0] 30)) kind s1 s2 s3 kd h v := by
  have a1 := heap_alloc_new w (.cells #[.int .i64 kind, s1, s2, s3] 30)
  have a2 := heap_alloc_new (w.alloc (.cells #[.int .i64 kind, s1, s2, s3] 30)) (.cells #[.int .i64 kd, .int .i64 h, .int .i64 v] 41)
  have a3 := heap_alloc_new ((w.alloc (.cells #[.int .i64 kind, s1, s2, s3] 30)).alloc (.cells #[.int .i64 kd, .int .i64 h, .int .i64 v] 41)) (.cells #[.int .i64 0, .slice none 0 0, .slice none 0 0, .slice none 0 0] 30)
  have sz : ∀ (u : World) (o : Obj), (u.alloc o).heap.size = u.heap.size + 1 := fun u o => by simp
  rw [sz] at a2
  rw [sz, sz] at a3
  have b1 : ∀ (u : World) (o : Obj), Chg (fun _ => False) u (u.alloc o) := fun u o => (Chg.refl _ u).alloc o
  exact ⟨(b1 _ _).heap ((b1 _ _).heap a1 (fun f => f)) (fun f => f), (b1 _ _).heap a2 (fun f => f), a3⟩
theorem StB.r (X : StB w W kind s1 s2 s3 kd h v) : W.cell? ⟨w.heap.size, 0, none⟩ = some (.int .i64 kind) ∧ W.cell? ⟨w.heap.size, 1, none⟩ = some s1 ∧ W.cell? ⟨w.heap.size, 2, none⟩ = some s2 ∧ W.cell? ⟨w.heap.size, 3, none⟩ = some s3 := by
  simp [World.cell?, X.rb]
theorem StB.o (X : StB w W kind s1 s2 s3 kd h v) : W.cell? ⟨w.heap.size + 1, 0, none⟩ = some (.int .i64 kd) ∧ W.cell? ⟨w.heap.size + 1, 1, none⟩ = some (.int .i64 h) ∧ W.cell? ⟨w.heap.size + 1, 2, none⟩ = some (.int .i64 v) := by
  simp [World.cell?, X.ob]
theorem StB.z (X : StB w W kind s1 s2 s3 kd h v) : W.cell? ⟨w.heap.size + 2, 0, none⟩ = some (.int .i64 0) ∧ W.cell? ⟨w.heap.size + 2, 1, none⟩ = some (.slice none 0 0) ∧ W.cell? ⟨w.heap.size + 2, 2, none⟩ = some (.slice none 0 0) ∧ W.cell? ⟨w.heap.size + 2, 3, none⟩ = some (.slice none 0 0) := by
  simp [World.cell?, X.zb]
theorem StB.f (X : StB w W kind s1 s2 s3 kd h v) (i : Nat) : W.frozen? ⟨w.heap.size + 2, i, none⟩ = false := by
  simp [World.frozen?, X.zb]
theorem StB.lt (X : StB w W kind s1 s2 s3 kd h v) : w.heap.size + 2 < W.heap.size := (Array.getElem?_eq_some_iff.1 X.zb).1

theorem RT.ne_blk {W : World} {B n : Nat} {A1 : Option Addr} {c1 : Nat} {A2 : Option Addr} {c2 : Nat} {A3 : Option Addr} {c3 : Nat} {xs : List Sl} (R : RT W B n A1 c1 A2 c2 A3 c3 xs) {b : Nat} {cs : Array Value} (hb : W.heap[b]? = some (.cells cs 30 (0, 0))) : ¬ Own3 n A1 c1 A2 c2 A3 c3 b := by
  rintro (e | e | e)
  · exact Kd.R_ne R.r1 hb (by decide) e.symm
  · exact Kd.R_ne R.r2 hb (by decide) e.symm
  · exact Kd.R_ne R.r3 hb (by decide) e.symm

/-- The end of a step: the result's block holds the reference's table. -/
theorem StB.fin {t g n cap B : Nat} {ys : List Sl} {B1 : Option Addr} {d1 : Nat} {B2 : Option Addr} {d2 : Nat} {B3 : Option Addr} {d3 : Nat} {S : Nat → Prop} {k2 : Int} (X : StB w W k2 s1 s2 s3 kd h v) (hT : TB W t g n cap kind ys) (hy : Tk kind n ys) (R : RT W B n B1 d1 B2 d2 B3 d3 ys) (hc : Chg S w W) (ht : t < w.heap.size) (hg : g < w.heap.size) (a b c d : Value) :
    StepPost w t g n cap B kind S (.returned (.tuple #[.agg #[.int .i64 kind, .slice B1 n d1, .slice B2 n d2, .slice B3 n d3], .bool true])) ((((W.setCell ⟨w.heap.size + 2, 0, none⟩ a).setCell ⟨w.heap.size + 2, 1, none⟩ b).setCell ⟨w.heap.size + 2, 2, none⟩ c).setCell ⟨w.heap.size + 2, 3, none⟩ d) := by
  have C : Chg (fun k => k = w.heap.size + 2) W ((((W.setCell ⟨w.heap.size + 2, 0, none⟩ a).setCell ⟨w.heap.size + 2, 1, none⟩ b).setCell ⟨w.heap.size + 2, 2, none⟩ c).setCell ⟨w.heap.size + 2, 3, none⟩ d) :=
    ((((Chg.refl (fun k => k = w.heap.size + 2) W).setCell ⟨w.heap.size + 2, 0, none⟩ a rfl).setCell ⟨w.heap.size + 2, 1, none⟩ b rfl).setCell ⟨w.heap.size + 2, 2, none⟩ c rfl).setCell ⟨w.heap.size + 2, 3, none⟩ d rfl
  refine ⟨ys, B1, d1, B2, d2, B3, d3, rfl, hT.chg C (by show ¬ t = _; omega) (by show ¬ g = _; omega), hy, R.chg C (fun k hk => by obtain rfl : k = _ := hk; exact R.ne_blk X.zb), ?_⟩
  exact ⟨C.os.trans hc.os, C.tape.trans hc.tape, C.output.trans hc.output, Nat.le_trans hc.size C.size, fun k hk hn => (C.block k (Nat.lt_of_lt_of_le hk hc.size) (by omega)).trans (hc.block k hk hn)⟩
end
end Go.Proofs.YtgjlkplieoajlaaDoor

set_option linter.unusedVariables false
set_option linter.unusedSimpArgs false
namespace Go.Proofs.YtgjlkplieoajlaaDoor
open Go.RowKit
open Go.Proofs.YtgjlkplieoajlaaDoorW.PrintWords (Kd Drawn0 Kept rd rdOf)
open Go.Proofs.YtgjlkplieoajlaaDoor.PSlotsTwins
set_option maxRecDepth 100000

set_option maxHeartbeats 2000000 in
theorem step_add (t g n cap B : Nat) (kind h v : Int) (A1 : Option Addr) (c1 : Nat) (A2 : Option Addr) (c2 : Nat) (A3 : Option Addr) (c3 : Nat) (xs : List Sl) (w : World) (H : TB w t g n cap kind xs) (hT : Tk kind n xs) (R : RT w B n A1 c1 A2 c2 A3 c3 xs)
    (ht : t < B) (hg : g < B) (hE : 0 < g) (hEB : 0 < B) (hL : Laid w) :
    Calls Tryd.prog 19 #[.pointer (some ⟨t, 0, none⟩), .agg #[.int .i64 kind, .slice A1 n c1, .slice A2 n c2, .slice A3 n c3], .agg #[.int .i64 0, .int .i64 h, .int .i64 v]] w (StepPost w t g n cap B kind (fun k => k = g ∨ Own3 n A1 c1 A2 c2 A3 c3 k)) := by
  obtain ⟨ys, hh, er, ev, hev, hTy, hE1, hC⟩ := add_any (t := t) (g := g) (cap := cap) hT v
  have HNV := Lib.hid hev
  have HTY := Lib.hid hTy
  have HE1 := Lib.hid hE1
  have HC := Lib.hid hC
  have HH := Lib.hid H
  have HR := Lib.hid R
  have HLL := Lib.hid hL
  have hBw := R.sz
  have HO3 := Lib.hid (fun k (hk : Own3 n A1 c1 A2 c2 A3 c3 k) => (HR.out.base hk).2)
  have X0 := Lib.hid (StB.new w kind (.slice A1 n c1) (.slice A2 n c2) (.slice A3 n c3) 0 h v)
  have D0 := Lib.hid ((((Chg.refl (fun k => k = g ∨ Own3 n A1 c1 A2 c2 A3 c3 k) w).alloc (.cells #[.int .i64 kind, .slice A1 n c1, .slice A2 n c2, .slice A3 n c3] 30)).alloc (.cells #[.int .i64 0, .int .i64 h, .int .i64 v] 41)).alloc (.cells #[.int .i64 0, .slice none 0 0, .slice none 0 0, .slice none 0 0] 30))
  have E0 := Lib.hid ((((Chg.refl (fun _ => False) w).alloc (.cells #[.int .i64 kind, .slice A1 n c1, .slice A2 n c2, .slice A3 n c3] 30)).alloc (.cells #[.int .i64 0, .int .i64 h, .int .i64 v] 41)).alloc (.cells #[.int .i64 0, .slice none 0 0, .slice none 0 0, .slice none 0 0] 30))
  clear hev hTy hE1 hC H R hL hT
  go_enter Tryd.func19, Tryd.ntmps19
  go_wp2_with fail
  refine (HC.out _ (HH.out.chg E0.out (fun f => f) (fun f => f))).mono ?_
  rintro e w1 ⟨rfl, hT1, hc1⟩
  have X1 := Lib.hid (X0.out.later hc1 (fun k hk => by rw [hk]; omega))
  have D1 := Lib.hid (D0.out.trans (hc1.mono (T := fun k => k = g ∨ Own3 n A1 c1 A2 c2 A3 c3 k) (fun k _ hk => .inl hk)))
  have R1 := Lib.hid ((HR.out.chg E0.out (fun _ f => f.elim)).chg hc1 (fun k hk hn => by have := (HR.out.base hn).1; rw [hk] at this; omega))
  have L1 := Lib.hid ((HLL.out.chg E0.out (fun f => f)).chg hc1 (fun e => by have : 0 = g := e; omega))
  have T1 := Lib.hid hT1
  clear hT1 hc1 X0 D0 E0 HH HR HLL HC
  obtain ⟨r0, r1, r2, r3⟩ := X1.out.r
  have o2 := X1.out.o.2.2
  go_wp2_with fail
  refine (radd_c R1.out v hh er HTY.out.len HE1.out).mono ?_
  rintro e w2 ⟨B1, d1, B2, d2, B3, d3, rfl, hR2, hc2⟩
  have X2 := Lib.hid (X1.out.later hc2 (fun k hk => by
    exact HO3.out k hk))
  have D2 := Lib.hid (D1.out.trans (hc2.mono (T := fun k => k = g ∨ Own3 n A1 c1 A2 c2 A3 c3 k) (fun k _ hk => .inr hk)))
  have T2 := Lib.hid (T1.out.chg hc2 (fun k => by have := (R1.out.base k).1; omega) (fun k => by have := (R1.out.base k).1; omega))
  have L2 := Lib.hid (L1.out.chg hc2 (fun k => by have := (R1.out.base k).1; omega))
  have R2 := Lib.hid hR2
  clear r0 r1 r2 r3 o2 X1 D1 R1 L1 T1 hR2 hc2
  go_wp2_with fail
  have HB3 := Lib.hid ((Below.refl w2.heap.size w2).alloc (Nat.le_refl _) (.cells #[.int .i64 kind, .slice B1 n d1, .slice B2 n d2, .slice B3 n d3] 30))
  have x0 : (w2.alloc (.cells #[.int .i64 kind, .slice B1 n d1, .slice B2 n d2, .slice B3 n d3] 30)).cell? ⟨w2.heap.size, 0, none⟩ = some (.int .i64 kind) := by simp
  have x1 : (w2.alloc (.cells #[.int .i64 kind, .slice B1 n d1, .slice B2 n d2, .slice B3 n d3] 30)).cell? ⟨w2.heap.size, 1, none⟩ = some (.slice B1 n d1) := by simp
  have x2 : (w2.alloc (.cells #[.int .i64 kind, .slice B1 n d1, .slice B2 n d2, .slice B3 n d3] 30)).cell? ⟨w2.heap.size, 2, none⟩ = some (.slice B2 n d2) := by simp
  have x3 : (w2.alloc (.cells #[.int .i64 kind, .slice B1 n d1, .slice B2 n d2, .slice B3 n d3] 30)).cell? ⟨w2.heap.size, 3, none⟩ = some (.slice B3 n d3) := by simp
  generalize (w2.alloc (.cells #[.int .i64 kind, .slice B1 n d1, .slice B2 n d2, .slice B3 n d3] 30)) = w3 at HB3 x0 x1 x2 x3 ⊢
  generalize w2.heap.size = xb at x0 x1 x2 x3 ⊢
  have X3 := Lib.hid (X2.out.below HB3.out)
  have D3 := Lib.hid (D2.out.trans (Chg.ofBelow HB3.out (fun k => k = g ∨ Own3 n A1 c1 A2 c2 A3 c3 k)))
  have T3 := Lib.hid (T2.out.below HB3.out)
  have R3 := Lib.hid (R2.out.below HB3.out)
  have HNUM := Lib.hid (fun W (hb : Below w3.heap.size w3 W) => num_any HNV.out W ((L2.out.below HB3.out).below hb))
  clear X2 D2 T2 R2 L2 HB3
  go_region_with (first
    | (go_at_call 11; refine (HNUM.out _ (by first | exact Below.refl _ _ | exact Below.drew (Below.refl _ _))).mono ?_; rintro e w4 ⟨rfl, hb4⟩; (try dsimp only); have x0 := keep hb4 x0; have x1 := keep hb4 x1; have x2 := keep hb4 x2; have x3 := keep hb4 x3; have HB4 := Lib.hid (show Below w3.heap.size w3 w4 from ⟨hb4.os, hb4.tape, hb4.output, hb4.size, hb4.block⟩); have zz := (X3.out.below HB4.out).z; have z0 := zz.1; have z1 := zz.2.1; have z2 := zz.2.2.1; have z3 := zz.2.2.2; have f0 := (X3.out.below HB4.out).f 0; have f1 := (X3.out.below HB4.out).f 1; have f2 := (X3.out.below HB4.out).f 2; have f3 := (X3.out.below HB4.out).f 3; clear zz hb4)
    | fail)
  all_goals
    go_wp2
    refine bodyPost_ret (v := .tuple #[.agg #[.int .i64 kind, .slice B1 n d1, .slice B2 n d2, .slice B3 n d3], .bool true]) (by simp [results, Tryd.results19, go_sem, z0, z1, z2, z3]) rfl ?_
    exact (X3.out.below HB4.out).fin (T3.out.below HB4.out) HTY.out (R3.out.below HB4.out) (D3.out.trans (Chg.ofBelow HB4.out (fun k => k = g ∨ Own3 n A1 c1 A2 c2 A3 c3 k))) (by omega) (by omega) _ _ _ _

end Go.Proofs.YtgjlkplieoajlaaDoor

set_option linter.unusedVariables false
set_option linter.unusedSimpArgs false
namespace Go.Proofs.YtgjlkplieoajlaaDoor
open Go.RowKit
open Go.Proofs.YtgjlkplieoajlaaDoorW.PrintWords (Kd Drawn0 Kept rd rdOf)
open Go.Proofs.YtgjlkplieoajlaaDoor.PSlotsTwins
set_option maxRecDepth 100000

set_option maxHeartbeats 2000000 in
theorem step_get (t g n cap B : Nat) (kind h v : Int) (A1 : Option Addr) (c1 : Nat) (A2 : Option Addr) (c2 : Nat) (A3 : Option Addr) (c3 : Nat) (xs : List Sl) (w : World) (H : TB w t g n cap kind xs) (hT : Tk kind n xs) (R : RT w B n A1 c1 A2 c2 A3 c3 xs)
    (ht : t < B) (hg : g < B) (hE : 0 < g) (hEB : 0 < B) (hL : Laid w) :
    Calls Tryd.prog 19 #[.pointer (some ⟨t, 0, none⟩), .agg #[.int .i64 kind, .slice A1 n c1, .slice A2 n c2, .slice A3 n c3], .agg #[.int .i64 1, .int .i64 h, .int .i64 v]] w (StepPost w t g n cap B kind (fun k => k = g ∨ Own3 n A1 c1 A2 c2 A3 c3 k)) := by
  obtain ⟨rr, er, ev, hev, hE1, hC⟩ := get_any (t := t) (g := g) (cap := cap) hT h
  have HNV := Lib.hid hev
  have HTY := Lib.hid hT
  have HE1 := Lib.hid hE1
  have HC := Lib.hid hC
  have HH := Lib.hid H
  have HR := Lib.hid R
  have HLL := Lib.hid hL
  have hBw := R.sz
  have HO3 := Lib.hid (fun k (hk : Own3 n A1 c1 A2 c2 A3 c3 k) => (HR.out.base hk).2)
  have X0 := Lib.hid (StB.new w kind (.slice A1 n c1) (.slice A2 n c2) (.slice A3 n c3) 1 h v)
  have D0 := Lib.hid ((((Chg.refl (fun k => k = g ∨ Own3 n A1 c1 A2 c2 A3 c3 k) w).alloc (.cells #[.int .i64 kind, .slice A1 n c1, .slice A2 n c2, .slice A3 n c3] 30)).alloc (.cells #[.int .i64 1, .int .i64 h, .int .i64 v] 41)).alloc (.cells #[.int .i64 0, .slice none 0 0, .slice none 0 0, .slice none 0 0] 30))
  have E0 := Lib.hid ((((Chg.refl (fun _ => False) w).alloc (.cells #[.int .i64 kind, .slice A1 n c1, .slice A2 n c2, .slice A3 n c3] 30)).alloc (.cells #[.int .i64 1, .int .i64 h, .int .i64 v] 41)).alloc (.cells #[.int .i64 0, .slice none 0 0, .slice none 0 0, .slice none 0 0] 30))
  clear hev hE1 hC H R hL hT
  go_enter Tryd.func19, Tryd.ntmps19
  go_wp2_with fail
  refine (HC.out _ (HH.out.chg E0.out (fun f => f) (fun f => f))).mono ?_
  rintro e w1 ⟨rfl, hT1, hc1⟩
  have X1 := Lib.hid (X0.out.later hc1 (fun k hk => by rw [hk]; omega))
  have D1 := Lib.hid (D0.out.trans (hc1.mono (T := fun k => k = g ∨ Own3 n A1 c1 A2 c2 A3 c3 k) (fun k _ hk => .inl hk)))
  have R1 := Lib.hid ((HR.out.chg E0.out (fun _ f => f.elim)).chg hc1 (fun k hk hn => by have := (HR.out.base hn).1; rw [hk] at this; omega))
  have L1 := Lib.hid ((HLL.out.chg E0.out (fun f => f)).chg hc1 (fun e => by have : 0 = g := e; omega))
  have T1 := Lib.hid hT1
  clear hT1 hc1 X0 D0 E0 HH HR HLL HC
  obtain ⟨r0, r1, r2, r3⟩ := X1.out.r
  have o1 := X1.out.o.2.1
  go_wp2_with fail
  refine (rget_c R1.out h rr er HE1.out).mono ?_
  rintro e w3 ⟨rfl, hb3⟩
  have HB3 := Lib.hid hb3
  have X3 := Lib.hid (X1.out.below HB3.out)
  have D3 := Lib.hid (D1.out.trans (Chg.ofBelow HB3.out (fun k => k = g ∨ Own3 n A1 c1 A2 c2 A3 c3 k)))
  have T3 := Lib.hid (T1.out.below HB3.out)
  have R3 := Lib.hid (R1.out.below HB3.out)
  have HNUM := Lib.hid (fun W (hb : Below w3.heap.size w3 W) => num_any HNV.out W ((L1.out.below HB3.out).below hb))
  clear r0 r1 r2 r3 o1 X1 D1 R1 L1 T1 HB3 hb3
  obtain ⟨r0, r1, r2, r3⟩ := X3.out.r
  go_wp2_with fail
  go_region_with (first
    | (go_at_call 11; refine (HNUM.out _ (by first | exact Below.refl _ _ | exact Below.drew (Below.refl _ _))).mono ?_; rintro e w4 ⟨rfl, hb4⟩; (try dsimp only); have r0 := keep hb4 r0; have r1 := keep hb4 r1; have r2 := keep hb4 r2; have r3 := keep hb4 r3; have HB4 := Lib.hid (show Below w3.heap.size w3 w4 from ⟨hb4.os, hb4.tape, hb4.output, hb4.size, hb4.block⟩); have zz := (X3.out.below HB4.out).z; have z0 := zz.1; have z1 := zz.2.1; have z2 := zz.2.2.1; have z3 := zz.2.2.2; have f0 := (X3.out.below HB4.out).f 0; have f1 := (X3.out.below HB4.out).f 1; have f2 := (X3.out.below HB4.out).f 2; have f3 := (X3.out.below HB4.out).f 3; clear zz hb4)
    | fail)
  all_goals
    go_wp2
    refine bodyPost_ret (v := .tuple #[.agg #[.int .i64 kind, .slice A1 n c1, .slice A2 n c2, .slice A3 n c3], .bool true]) (by simp [results, Tryd.results19, go_sem, z0, z1, z2, z3]) rfl ?_
    exact (X3.out.below HB4.out).fin (T3.out.below HB4.out) HTY.out (R3.out.below HB4.out) (D3.out.trans (Chg.ofBelow HB4.out (fun k => k = g ∨ Own3 n A1 c1 A2 c2 A3 c3 k))) (by omega) (by omega) _ _ _ _

end Go.Proofs.YtgjlkplieoajlaaDoor

set_option linter.unusedVariables false
set_option linter.unusedSimpArgs false
namespace Go.Proofs.YtgjlkplieoajlaaDoor
open Go.RowKit
open Go.Proofs.YtgjlkplieoajlaaDoorW.PrintWords (Kd Drawn0 Kept rd rdOf)
open Go.Proofs.YtgjlkplieoajlaaDoor.PSlotsTwins
set_option maxRecDepth 100000

set_option maxHeartbeats 2000000 in
theorem step_set (t g n cap B : Nat) (kind h v : Int) (A1 : Option Addr) (c1 : Nat) (A2 : Option Addr) (c2 : Nat) (A3 : Option Addr) (c3 : Nat) (xs : List Sl) (w : World) (H : TB w t g n cap kind xs) (hT : Tk kind n xs) (R : RT w B n A1 c1 A2 c2 A3 c3 xs)
    (ht : t < B) (hg : g < B) (hE : 0 < g) (hEB : 0 < B) (hL : Laid w) :
    Calls Tryd.prog 19 #[.pointer (some ⟨t, 0, none⟩), .agg #[.int .i64 kind, .slice A1 n c1, .slice A2 n c2, .slice A3 n c3], .agg #[.int .i64 2, .int .i64 h, .int .i64 v]] w (StepPost w t g n cap B kind (fun k => k = g ∨ Own3 n A1 c1 A2 c2 A3 c3 k)) := by
  obtain ⟨ys, er, ev, hev, hTy, hE1, hC⟩ := set_any (t := t) (g := g) (cap := cap) hT h v
  have HNV := Lib.hid hev
  have HTY := Lib.hid hTy
  have HE1 := Lib.hid hE1
  have HC := Lib.hid hC
  have HH := Lib.hid H
  have HR := Lib.hid R
  have HLL := Lib.hid hL
  have hBw := R.sz
  have HO3 := Lib.hid (fun k (hk : Own3 n A1 c1 A2 c2 A3 c3 k) => (HR.out.base hk).2)
  have X0 := Lib.hid (StB.new w kind (.slice A1 n c1) (.slice A2 n c2) (.slice A3 n c3) 2 h v)
  have D0 := Lib.hid ((((Chg.refl (fun k => k = g ∨ Own3 n A1 c1 A2 c2 A3 c3 k) w).alloc (.cells #[.int .i64 kind, .slice A1 n c1, .slice A2 n c2, .slice A3 n c3] 30)).alloc (.cells #[.int .i64 2, .int .i64 h, .int .i64 v] 41)).alloc (.cells #[.int .i64 0, .slice none 0 0, .slice none 0 0, .slice none 0 0] 30))
  have E0 := Lib.hid ((((Chg.refl (fun _ => False) w).alloc (.cells #[.int .i64 kind, .slice A1 n c1, .slice A2 n c2, .slice A3 n c3] 30)).alloc (.cells #[.int .i64 2, .int .i64 h, .int .i64 v] 41)).alloc (.cells #[.int .i64 0, .slice none 0 0, .slice none 0 0, .slice none 0 0] 30))
  clear hev hTy hE1 hC H R hL hT
  go_enter Tryd.func19, Tryd.ntmps19
  go_wp2_with fail
  refine (HC.out _ (HH.out.chg E0.out (fun f => f) (fun f => f))).mono ?_
  rintro e w1 ⟨rfl, hT1, hc1⟩
  have X1 := Lib.hid (X0.out.later hc1 (fun k hk => by rw [hk]; omega))
  have D1 := Lib.hid (D0.out.trans (hc1.mono (T := fun k => k = g ∨ Own3 n A1 c1 A2 c2 A3 c3 k) (fun k _ hk => .inl hk)))
  have R1 := Lib.hid ((HR.out.chg E0.out (fun _ f => f.elim)).chg hc1 (fun k hk hn => by have := (HR.out.base hn).1; rw [hk] at this; omega))
  have L1 := Lib.hid ((HLL.out.chg E0.out (fun f => f)).chg hc1 (fun e => by have : 0 = g := e; omega))
  have T1 := Lib.hid hT1
  clear hT1 hc1 X0 D0 E0 HH HR HLL HC
  obtain ⟨r0, r1, r2, r3⟩ := X1.out.r
  have o2 := X1.out.o.2.2
  have o1 := X1.out.o.2.1
  go_wp2_with fail
  refine (rset_c R1.out h v er HTY.out.len HE1.out).mono ?_
  rintro e w2 ⟨B1, d1, B2, d2, B3, d3, rfl, hR2, hc2⟩
  have X2 := Lib.hid (X1.out.later hc2 (fun k hk => by
    exact HO3.out k hk))
  have D2 := Lib.hid (D1.out.trans (hc2.mono (T := fun k => k = g ∨ Own3 n A1 c1 A2 c2 A3 c3 k) (fun k _ hk => .inr hk)))
  have T2 := Lib.hid (T1.out.chg hc2 (fun k => by have := (R1.out.base k).1; omega) (fun k => by have := (R1.out.base k).1; omega))
  have L2 := Lib.hid (L1.out.chg hc2 (fun k => by have := (R1.out.base k).1; omega))
  have R2 := Lib.hid hR2
  clear r0 r1 r2 r3 o2 o1 X1 D1 R1 L1 T1 hR2 hc2
  go_wp2_with fail
  have HB3 := Lib.hid ((Below.refl w2.heap.size w2).alloc (Nat.le_refl _) (.cells #[.int .i64 kind, .slice B1 n d1, .slice B2 n d2, .slice B3 n d3] 30))
  have x0 : (w2.alloc (.cells #[.int .i64 kind, .slice B1 n d1, .slice B2 n d2, .slice B3 n d3] 30)).cell? ⟨w2.heap.size, 0, none⟩ = some (.int .i64 kind) := by simp
  have x1 : (w2.alloc (.cells #[.int .i64 kind, .slice B1 n d1, .slice B2 n d2, .slice B3 n d3] 30)).cell? ⟨w2.heap.size, 1, none⟩ = some (.slice B1 n d1) := by simp
  have x2 : (w2.alloc (.cells #[.int .i64 kind, .slice B1 n d1, .slice B2 n d2, .slice B3 n d3] 30)).cell? ⟨w2.heap.size, 2, none⟩ = some (.slice B2 n d2) := by simp
  have x3 : (w2.alloc (.cells #[.int .i64 kind, .slice B1 n d1, .slice B2 n d2, .slice B3 n d3] 30)).cell? ⟨w2.heap.size, 3, none⟩ = some (.slice B3 n d3) := by simp
  generalize (w2.alloc (.cells #[.int .i64 kind, .slice B1 n d1, .slice B2 n d2, .slice B3 n d3] 30)) = w3 at HB3 x0 x1 x2 x3 ⊢
  generalize w2.heap.size = xb at x0 x1 x2 x3 ⊢
  have X3 := Lib.hid (X2.out.below HB3.out)
  have D3 := Lib.hid (D2.out.trans (Chg.ofBelow HB3.out (fun k => k = g ∨ Own3 n A1 c1 A2 c2 A3 c3 k)))
  have T3 := Lib.hid (T2.out.below HB3.out)
  have R3 := Lib.hid (R2.out.below HB3.out)
  have HNUM := Lib.hid (fun W (hb : Below w3.heap.size w3 W) => num_any HNV.out W ((L2.out.below HB3.out).below hb))
  clear X2 D2 T2 R2 L2 HB3
  go_region_with (first
    | (go_at_call 11; refine (HNUM.out _ (by first | exact Below.refl _ _ | exact Below.drew (Below.refl _ _))).mono ?_; rintro e w4 ⟨rfl, hb4⟩; (try dsimp only); have x0 := keep hb4 x0; have x1 := keep hb4 x1; have x2 := keep hb4 x2; have x3 := keep hb4 x3; have HB4 := Lib.hid (show Below w3.heap.size w3 w4 from ⟨hb4.os, hb4.tape, hb4.output, hb4.size, hb4.block⟩); have zz := (X3.out.below HB4.out).z; have z0 := zz.1; have z1 := zz.2.1; have z2 := zz.2.2.1; have z3 := zz.2.2.2; have f0 := (X3.out.below HB4.out).f 0; have f1 := (X3.out.below HB4.out).f 1; have f2 := (X3.out.below HB4.out).f 2; have f3 := (X3.out.below HB4.out).f 3; clear zz hb4)
    | fail)
  all_goals
    go_wp2
    refine bodyPost_ret (v := .tuple #[.agg #[.int .i64 kind, .slice B1 n d1, .slice B2 n d2, .slice B3 n d3], .bool true]) (by simp [results, Tryd.results19, go_sem, z0, z1, z2, z3]) rfl ?_
    exact (X3.out.below HB4.out).fin (T3.out.below HB4.out) HTY.out (R3.out.below HB4.out) (D3.out.trans (Chg.ofBelow HB4.out (fun k => k = g ∨ Own3 n A1 c1 A2 c2 A3 c3 k))) (by omega) (by omega) _ _ _ _

end Go.Proofs.YtgjlkplieoajlaaDoor

set_option linter.unusedVariables false
set_option linter.unusedSimpArgs false
namespace Go.Proofs.YtgjlkplieoajlaaDoor
open Go.RowKit
open Go.Proofs.YtgjlkplieoajlaaDoorW.PrintWords (Kd Drawn0 Kept rd rdOf)
open Go.Proofs.YtgjlkplieoajlaaDoor.PSlotsTwins
set_option maxRecDepth 100000

set_option maxHeartbeats 2000000 in
theorem step_drop (t g n cap B : Nat) (kind h v : Int) (A1 : Option Addr) (c1 : Nat) (A2 : Option Addr) (c2 : Nat) (A3 : Option Addr) (c3 : Nat) (xs : List Sl) (w : World) (H : TB w t g n cap kind xs) (hT : Tk kind n xs) (R : RT w B n A1 c1 A2 c2 A3 c3 xs)
    (ht : t < B) (hg : g < B) (hE : 0 < g) (hEB : 0 < B) (hL : Laid w) :
    Calls Tryd.prog 19 #[.pointer (some ⟨t, 0, none⟩), .agg #[.int .i64 kind, .slice A1 n c1, .slice A2 n c2, .slice A3 n c3], .agg #[.int .i64 3, .int .i64 h, .int .i64 v]] w (StepPost w t g n cap B kind (fun k => k = g ∨ Own3 n A1 c1 A2 c2 A3 c3 k)) := by
  obtain ⟨ys, er, ev, hev, hTy, hE1, hC⟩ := drop_any (t := t) (g := g) (cap := cap) hT h
  have HNV := Lib.hid hev
  have HTY := Lib.hid hTy
  have HE1 := Lib.hid hE1
  have HC := Lib.hid hC
  have HH := Lib.hid H
  have HR := Lib.hid R
  have HLL := Lib.hid hL
  have hBw := R.sz
  have HO3 := Lib.hid (fun k (hk : Own3 n A1 c1 A2 c2 A3 c3 k) => (HR.out.base hk).2)
  have X0 := Lib.hid (StB.new w kind (.slice A1 n c1) (.slice A2 n c2) (.slice A3 n c3) 3 h v)
  have D0 := Lib.hid ((((Chg.refl (fun k => k = g ∨ Own3 n A1 c1 A2 c2 A3 c3 k) w).alloc (.cells #[.int .i64 kind, .slice A1 n c1, .slice A2 n c2, .slice A3 n c3] 30)).alloc (.cells #[.int .i64 3, .int .i64 h, .int .i64 v] 41)).alloc (.cells #[.int .i64 0, .slice none 0 0, .slice none 0 0, .slice none 0 0] 30))
  have E0 := Lib.hid ((((Chg.refl (fun _ => False) w).alloc (.cells #[.int .i64 kind, .slice A1 n c1, .slice A2 n c2, .slice A3 n c3] 30)).alloc (.cells #[.int .i64 3, .int .i64 h, .int .i64 v] 41)).alloc (.cells #[.int .i64 0, .slice none 0 0, .slice none 0 0, .slice none 0 0] 30))
  clear hev hTy hE1 hC H R hL hT
  go_enter Tryd.func19, Tryd.ntmps19
  go_wp2_with fail
  refine (HC.out _ (HH.out.chg E0.out (fun f => f) (fun f => f))).mono ?_
  rintro e w1 ⟨rfl, hT1, hc1⟩
  have X1 := Lib.hid (X0.out.later hc1 (fun k hk => by rw [hk]; omega))
  have D1 := Lib.hid (D0.out.trans (hc1.mono (T := fun k => k = g ∨ Own3 n A1 c1 A2 c2 A3 c3 k) (fun k _ hk => .inl hk)))
  have R1 := Lib.hid ((HR.out.chg E0.out (fun _ f => f.elim)).chg hc1 (fun k hk hn => by have := (HR.out.base hn).1; rw [hk] at this; omega))
  have L1 := Lib.hid ((HLL.out.chg E0.out (fun f => f)).chg hc1 (fun e => by have : 0 = g := e; omega))
  have T1 := Lib.hid hT1
  clear hT1 hc1 X0 D0 E0 HH HR HLL HC
  obtain ⟨r0, r1, r2, r3⟩ := X1.out.r
  have o1 := X1.out.o.2.1
  go_wp2_with fail
  refine (rdrop_c R1.out h er HTY.out.len HE1.out).mono ?_
  rintro e w2 ⟨B1, d1, B2, d2, B3, d3, rfl, hR2, hc2⟩
  have X2 := Lib.hid (X1.out.later hc2 (fun k hk => by
    exact HO3.out k hk))
  have D2 := Lib.hid (D1.out.trans (hc2.mono (T := fun k => k = g ∨ Own3 n A1 c1 A2 c2 A3 c3 k) (fun k _ hk => .inr hk)))
  have T2 := Lib.hid (T1.out.chg hc2 (fun k => by have := (R1.out.base k).1; omega) (fun k => by have := (R1.out.base k).1; omega))
  have L2 := Lib.hid (L1.out.chg hc2 (fun k => by have := (R1.out.base k).1; omega))
  have R2 := Lib.hid hR2
  clear r0 r1 r2 r3 o1 X1 D1 R1 L1 T1 hR2 hc2
  go_wp2_with fail
  have HB3 := Lib.hid ((Below.refl w2.heap.size w2).alloc (Nat.le_refl _) (.cells #[.int .i64 kind, .slice B1 n d1, .slice B2 n d2, .slice B3 n d3] 30))
  have x0 : (w2.alloc (.cells #[.int .i64 kind, .slice B1 n d1, .slice B2 n d2, .slice B3 n d3] 30)).cell? ⟨w2.heap.size, 0, none⟩ = some (.int .i64 kind) := by simp
  have x1 : (w2.alloc (.cells #[.int .i64 kind, .slice B1 n d1, .slice B2 n d2, .slice B3 n d3] 30)).cell? ⟨w2.heap.size, 1, none⟩ = some (.slice B1 n d1) := by simp
  have x2 : (w2.alloc (.cells #[.int .i64 kind, .slice B1 n d1, .slice B2 n d2, .slice B3 n d3] 30)).cell? ⟨w2.heap.size, 2, none⟩ = some (.slice B2 n d2) := by simp
  have x3 : (w2.alloc (.cells #[.int .i64 kind, .slice B1 n d1, .slice B2 n d2, .slice B3 n d3] 30)).cell? ⟨w2.heap.size, 3, none⟩ = some (.slice B3 n d3) := by simp
  generalize (w2.alloc (.cells #[.int .i64 kind, .slice B1 n d1, .slice B2 n d2, .slice B3 n d3] 30)) = w3 at HB3 x0 x1 x2 x3 ⊢
  generalize w2.heap.size = xb at x0 x1 x2 x3 ⊢
  have X3 := Lib.hid (X2.out.below HB3.out)
  have D3 := Lib.hid (D2.out.trans (Chg.ofBelow HB3.out (fun k => k = g ∨ Own3 n A1 c1 A2 c2 A3 c3 k)))
  have T3 := Lib.hid (T2.out.below HB3.out)
  have R3 := Lib.hid (R2.out.below HB3.out)
  have HNUM := Lib.hid (fun W (hb : Below w3.heap.size w3 W) => num_any HNV.out W ((L2.out.below HB3.out).below hb))
  clear X2 D2 T2 R2 L2 HB3
  go_region_with (first
    | (go_at_call 11; refine (HNUM.out _ (by first | exact Below.refl _ _ | exact Below.drew (Below.refl _ _))).mono ?_; rintro e w4 ⟨rfl, hb4⟩; (try dsimp only); have x0 := keep hb4 x0; have x1 := keep hb4 x1; have x2 := keep hb4 x2; have x3 := keep hb4 x3; have HB4 := Lib.hid (show Below w3.heap.size w3 w4 from ⟨hb4.os, hb4.tape, hb4.output, hb4.size, hb4.block⟩); have zz := (X3.out.below HB4.out).z; have z0 := zz.1; have z1 := zz.2.1; have z2 := zz.2.2.1; have z3 := zz.2.2.2; have f0 := (X3.out.below HB4.out).f 0; have f1 := (X3.out.below HB4.out).f 1; have f2 := (X3.out.below HB4.out).f 2; have f3 := (X3.out.below HB4.out).f 3; clear zz hb4)
    | fail)
  all_goals
    go_wp2
    refine bodyPost_ret (v := .tuple #[.agg #[.int .i64 kind, .slice B1 n d1, .slice B2 n d2, .slice B3 n d3], .bool true]) (by simp [results, Tryd.results19, go_sem, z0, z1, z2, z3]) rfl ?_
    exact (X3.out.below HB4.out).fin (T3.out.below HB4.out) HTY.out (R3.out.below HB4.out) (D3.out.trans (Chg.ofBelow HB4.out (fun k => k = g ∨ Own3 n A1 c1 A2 c2 A3 c3 k))) (by omega) (by omega) _ _ _ _

end Go.Proofs.YtgjlkplieoajlaaDoor

set_option linter.unusedVariables false
set_option linter.unusedSimpArgs false
namespace Go.Proofs.YtgjlkplieoajlaaDoor
open Go.RowKit
open Go.Proofs.YtgjlkplieoajlaaDoorW.PrintWords (Kd Drawn0 Kept rd rdOf)
open Go.Proofs.YtgjlkplieoajlaaDoor.PSlotsTwins
set_option maxRecDepth 100000

set_option maxHeartbeats 2000000 in
theorem step_all (t g n cap B : Nat) (kind kd h v : Int) (A1 : Option Addr) (c1 : Nat) (A2 : Option Addr) (c2 : Nat) (A3 : Option Addr) (c3 : Nat) (xs : List Sl) (w : World) (H : TB w t g n cap kind xs) (hT : Tk kind n xs) (R : RT w B n A1 c1 A2 c2 A3 c3 xs)
    (ht : t < B) (hg : g < B) (h0 : (kd == 0) = false) (h1 : (kd == 1) = false) (h2 : (kd == 2) = false) (h3 : (kd == 3) = false) :
    Calls Tryd.prog 19 #[.pointer (some ⟨t, 0, none⟩), .agg #[.int .i64 kind, .slice A1 n c1, .slice A2 n c2, .slice A3 n c3], .agg #[.int .i64 kd, .int .i64 h, .int .i64 v]] w (StepPost w t g n cap B kind (fun k => k = g ∨ Own3 n A1 c1 A2 c2 A3 c3 k)) := by
  have HTY := Lib.hid hT
  have hBw := R.sz
  have X3 := Lib.hid (StB.new w kind (.slice A1 n c1) (.slice A2 n c2) (.slice A3 n c3) kd h v)
  have D3 := Lib.hid ((((Chg.refl (fun k => k = g ∨ Own3 n A1 c1 A2 c2 A3 c3 k) w).alloc (.cells #[.int .i64 kind, .slice A1 n c1, .slice A2 n c2, .slice A3 n c3] 30)).alloc (.cells #[.int .i64 kd, .int .i64 h, .int .i64 v] 41)).alloc (.cells #[.int .i64 0, .slice none 0 0, .slice none 0 0, .slice none 0 0] 30))
  have E0 := ((((Chg.refl (fun _ => False) w).alloc (.cells #[.int .i64 kind, .slice A1 n c1, .slice A2 n c2, .slice A3 n c3] 30)).alloc (.cells #[.int .i64 kd, .int .i64 h, .int .i64 v] 41)).alloc (.cells #[.int .i64 0, .slice none 0 0, .slice none 0 0, .slice none 0 0] 30))
  have T3 := Lib.hid (H.chg E0 (fun f => f) (fun f => f))
  have R3 := Lib.hid (R.chg E0 (fun _ f => f.elim))
  clear E0 H R hT
  go_enter Tryd.func19, Tryd.ntmps19
  go_wp2_with fail
  generalize ((((w.alloc (.cells #[.int .i64 kind, .slice A1 n c1, .slice A2 n c2, .slice A3 n c3] 30)).alloc (.cells #[.int .i64 kd, .int .i64 h, .int .i64 v] 41)).alloc (.cells #[.int .i64 0, .slice none 0 0, .slice none 0 0, .slice none 0 0] 30))) = w3 at X3 D3 T3 R3 ⊢
  have HSM := Lib.hid (fun W (hb : Below w3.heap.size w3 W) => same_ok t g n cap B kind A1 c1 A2 c2 A3 c3 xs W (T3.out.below hb) HTY.out (R3.out.below hb))
  obtain ⟨r0, r1, r2, r3⟩ := X3.out.r
  go_region_with (first
    | (go_at_call 12; refine (HSM.out _ (by first | exact Below.refl _ _ | exact Below.drew (Below.refl _ _))).mono ?_; rintro e w4 ⟨rfl, hb4⟩; (try dsimp only); have r0 := keep hb4 r0; have r1 := keep hb4 r1; have r2 := keep hb4 r2; have r3 := keep hb4 r3; have HB4 := Lib.hid (show Below w3.heap.size w3 w4 from ⟨hb4.os, hb4.tape, hb4.output, hb4.size, hb4.block⟩); have zz := (X3.out.below HB4.out).z; have z0 := zz.1; have z1 := zz.2.1; have z2 := zz.2.2.1; have z3 := zz.2.2.2; have f0 := (X3.out.below HB4.out).f 0; have f1 := (X3.out.below HB4.out).f 1; have f2 := (X3.out.below HB4.out).f 2; have f3 := (X3.out.below HB4.out).f 3; clear zz hb4)
    | fail)
  all_goals
    go_wp2
    refine bodyPost_ret (v := .tuple #[.agg #[.int .i64 kind, .slice A1 n c1, .slice A2 n c2, .slice A3 n c3], .bool true]) (by simp [results, Tryd.results19, go_sem, z0, z1, z2, z3]) rfl ?_
    exact (X3.out.below HB4.out).fin (T3.out.below HB4.out) HTY.out (R3.out.below HB4.out) (D3.out.trans (Chg.ofBelow HB4.out (fun k => k = g ∨ Own3 n A1 c1 A2 c2 A3 c3 k))) (by omega) (by omega) _ _ _ _

end Go.Proofs.YtgjlkplieoajlaaDoor
