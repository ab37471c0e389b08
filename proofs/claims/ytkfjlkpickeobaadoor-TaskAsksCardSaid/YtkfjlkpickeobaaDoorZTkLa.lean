/- Of the text TkLa only what this claim needs (shake.py, this repo's). -/
import Derived.Test.YtkfjlkpickeobaaDoorZTkU0
import Derived.Test.YtkfjlkpickeobaaDoorZTmE
import Derived.Test.YtkfjlkpickeobaaDoorZTkO0
set_option linter.unusedVariables false
set_option linter.unusedSimpArgs false
namespace Go.Proofs.YtkfjlkpickeobaaDoor
open Go.RowKit
open Go.Proofs.YtkfjlkpickeobaaDoorW.PrintWords (Kd Drawn0 Kept rd rdOf ReadsRow)
open Go.Proofs.YtkfjlkpickeobaaDoor.PTaskRuns
set_option maxRecDepth 100000

theorem info26 : (Tryd.prog.info? 26).map (fun i => (i.zero, i.size, i.bytes)) = some (some (.agg #[.int .i64 0, .slice none 0 0, .int .i64 0, .int .i64 0, .int .i64 0, .int .i64 0, .int .i64 0, .int .i64 0]), 8, 80) := by kernel_rfl
theorem Tk.s_inj {T U : Tk} (h : T.s = U.s) : T = U := by
  cases T; cases U
  simp only [Tk.s, S26.mk.injEq, S24.mk.injEq] at h
  obtain ⟨rfl, rfl, rfl, rfl, rfl, rfl, rfl, rfl⟩ := h
  rfl
theorem TAt.alloc {W : World} {b o i : Nat} {T : Tk} {v : Value} (h : TAt W b o i T v) (x : Obj) : TAt (W.alloc x) b o i T v := h.below ((Below.refl _ W).alloc (Nat.le_refl _) x)
theorem TAt.lt {W : World} {b o i : Nat} {T : Tk} {v : Value} (h : TAt W b o i T v) : b < W.heap.size := by
  have h0 := h.c0
  rcases Nat.lt_or_ge b W.heap.size with k | k
  · exact k
  · simp [World.cell?, Array.getElem?_eq_none k] at h0
theorem mine_TL {W : World} {base n c : Nat} {ok : Nat → Prop} {A : Option Addr} {xs : List S26} (h : Kd.R k26 26 W base ok (.slice A n c) xs) : n ≤ c ∧ ∃ Us : List (Tk × Value), TL W A n Us ∧ Us.map (fun p => p.1.s) = xs := by
  obtain ⟨e, hc, hC⟩ := Kd.R_reads' h
  refine ⟨hc, ?_⟩
  by_cases h0 : 0 < xs.length
  · obtain ⟨g, c2, e2, -⟩ := Kd.R_form h h0
    injection e2 with e3 _ _
    subst e3
    obtain ⟨Us, h1, h2⟩ := TL.of_c26 hC
    exact ⟨Us, by rw [e]; exact h1, h2⟩
  · have hx : xs = [] := List.eq_nil_of_length_eq_zero (by omega)
    subst hx
    refine ⟨[], ⟨e.symm, fun i T v h => by simp at h⟩, rfl⟩
/-- The rows behind some rounds. -/
structure MR (w W : World) (A : Option Addr) (k c : Nat) (Ts : List (Tk × Value)) : Prop where
  r : Kd.R k26 26 W w.heap.size (fun _ => True) (.slice A k c) ((Ts.take k).map fun p => p.1.s)
  be : Below w.heap.size w W
structure LR (w W : World) (Am A : Option Addr) (n : Nat) (Us Ts : List (Tk × Value)) : Prop where
  m : TL W Am n Us
  l : TL W A n Ts
  be : Below w.heap.size w W
theorem LR.below {w W W' : World} {Am A : Option Addr} {n : Nat} {Us Ts : List (Tk × Value)} (h : LR w W Am A n Us Ts) (hb : Below W.heap.size W W') : LR w W' Am A n Us Ts := ⟨h.m.below hb, h.l.below hb, below_call h.be (Nat.le_refl _) hb⟩
theorem tdrop_d (T D : Tk) (hD : D = T.drop) (v : Value) (w : World) (h : TR w v T.js) : Calls Tryd.prog 33 #[T.v v] w fun e w' => ∃ v1, e = .returned (.tuple #[D.v v1, .int .i64 T.js.length]) ∧ TR w' v1 D.js ∧ Below w.heap.size w w' := by
  subst hD; exact tdrop_c T v w h
theorem rdrop_d (T D : Tk) (hD : D = T.drop) (v : Value) (w : World) (h : TR w v T.js) : Calls Tryd.prog 34 #[T.v v] w fun e w' => ∃ v1, e = .returned (.tuple #[D.v v1, .int .i64 T.js.length]) ∧ TR w' v1 D.js ∧ Below w.heap.size w w' := by
  subst hD; exact rdrop_c T v w h
/-- What is carried over the round's last row of calls. -/
structure RA (w0 : World) (T D : Tk) (u v x y : Value) (bm om b o k bx b2 : Nat) (W : World) : Prop where
  tu : TAt W bm om k T u
  tv : TAt W b o k T v
  x : TX W bx D x
  y : TX W b2 D y
  be : BMW W w0
section
variable {w0 W W' : World} {T D : Tk} {u v x y : Value} {bm om b o k bx b2 : Nat}
theorem RA.below (h : RA w0 T D u v x y bm om b o k bx b2 W) (hb : Below W.heap.size W W') : RA w0 T D u v x y bm om b o k bx b2 W' := ⟨h.tu.below hb, h.tv.below hb, h.x.below hb, h.y.below hb, h.be.below hb⟩
theorem RA.drew (h : RA w0 T D u v x y bm om b o k bx b2 W) : RA w0 T D u v x y bm om b o k bx b2 W.drew := h.below (below_drewN' (Below.refl _ W) 1)
theorem RA.full (h : RA w0 T D u v x y bm om b o k bx b2 W) : W.cell? ⟨bm, om + k * 8, none⟩ = some (.int .i64 T.p) ∧ W.cell? ⟨bm, om + k * 8 + 1, none⟩ = some (u) ∧ W.cell? ⟨bm, om + k * 8 + 2, none⟩ = some (.int .i64 T.g) ∧ W.cell? ⟨bm, om + k * 8 + 3, none⟩ = some (.int .i64 T.o) ∧ W.cell? ⟨bm, om + k * 8 + 4, none⟩ = some (.int .i64 T.l) ∧ W.cell? ⟨bm, om + k * 8 + 5, none⟩ = some (.int .i64 T.d) ∧ W.cell? ⟨bm, om + k * 8 + 6, none⟩ = some (.int .i64 T.c) ∧ W.cell? ⟨bm, om + k * 8 + 7, none⟩ = some (.int .i64 T.t) ∧ W.cell? ⟨b, o + k * 8, none⟩ = some (.int .i64 T.p) ∧ W.cell? ⟨b, o + k * 8 + 1, none⟩ = some (v) ∧ W.cell? ⟨b, o + k * 8 + 2, none⟩ = some (.int .i64 T.g) ∧ W.cell? ⟨b, o + k * 8 + 3, none⟩ = some (.int .i64 T.o) ∧ W.cell? ⟨b, o + k * 8 + 4, none⟩ = some (.int .i64 T.l) ∧ W.cell? ⟨b, o + k * 8 + 5, none⟩ = some (.int .i64 T.d) ∧ W.cell? ⟨b, o + k * 8 + 6, none⟩ = some (.int .i64 T.c) ∧ W.cell? ⟨b, o + k * 8 + 7, none⟩ = some (.int .i64 T.t) ∧ W.cell? ⟨bx, 0, none⟩ = some (.int .i64 D.p) ∧ W.cell? ⟨bx, 1, none⟩ = some (x) ∧ W.cell? ⟨bx, 2, none⟩ = some (.int .i64 D.g) ∧ W.cell? ⟨bx, 3, none⟩ = some (.int .i64 D.o) ∧ W.cell? ⟨bx, 4, none⟩ = some (.int .i64 D.l) ∧ W.cell? ⟨bx, 5, none⟩ = some (.int .i64 D.d) ∧ W.cell? ⟨bx, 6, none⟩ = some (.int .i64 D.c) ∧ W.cell? ⟨bx, 7, none⟩ = some (.int .i64 D.t) ∧ W.cell? ⟨b2, 0, none⟩ = some (.int .i64 D.p) ∧ W.cell? ⟨b2, 1, none⟩ = some (y) ∧ W.cell? ⟨b2, 2, none⟩ = some (.int .i64 D.g) ∧ W.cell? ⟨b2, 3, none⟩ = some (.int .i64 D.o) ∧ W.cell? ⟨b2, 4, none⟩ = some (.int .i64 D.l) ∧ W.cell? ⟨b2, 5, none⟩ = some (.int .i64 D.d) ∧ W.cell? ⟨b2, 6, none⟩ = some (.int .i64 D.c) ∧ W.cell? ⟨b2, 7, none⟩ = some (.int .i64 D.t) ∧ RA w0 T D u v x y bm om b o k bx b2 W := by
  obtain ⟨a0, a1, a2, a3, a4, a5, a6, a7⟩ := h.x.t8
  obtain ⟨d0, d1, d2, d3, d4, d5, d6, d7⟩ := h.y.t8
  exact ⟨h.tu.c0, h.tu.c1, h.tu.c2, h.tu.c3, h.tu.c4, h.tu.c5, h.tu.c6, h.tu.c7, h.tv.c0, h.tv.c1, h.tv.c2, h.tv.c3, h.tv.c4, h.tv.c5, h.tv.c6, h.tv.c7, a0, a1, a2, a3, a4, a5, a6, a7, d0, d1, d2, d3, d4, d5, d6, d7, h⟩
end

set_option maxHeartbeats 8000000 in
theorem lasks_ok (A : Option Addr) (n c : Nat) (Ts : List (Tk × Value)) (now : Int) (w : World) (h : TL w A n Ts) (hnc : n ≤ c) (hn : n * 80 ≤ 140737488351232) (hl : ∀ (i : Nat) (T : Tk) (v : Value), Ts[i]? = some (T, v) → T.js.length * 32 ≤ 140737488351232) :
    Calls Tryd.prog 9 #[.slice A n c, .int .i64 now] w fun e w' => e = .returned (.bool true) ∧ Below w.heap.size w w' := by
  have HT := Lib.hid h
  have HL := Lib.hid hl
  have HNC := Lib.hid hnc
  clear h hl hnc
  go_enter Tryd.func9, Tryd.ntmps9
  go_wp2_with fail
  go_loopw [5, 6] (fun m i wr => ∃ k : Nat, k ≤ n ∧ i = .int .i64 k ∧ ∃ (Am : Option Addr) (cm : Nat), m = .slice Am k cm ∧ Hid (MR w wr Am k cm Ts)) (fun _ i _ => n - (intOf i).toNat)
  case atStart => exact ⟨0, Nat.zero_le _, rfl, none, 0, rfl, Lib.hid ⟨Kd.R_nil _ _ _ _ _, Below.refl _ _⟩⟩
  case round =>
    obtain ⟨k, hk, rfl, Am, cm, rfl, hM⟩ := hrel
    by_cases hlt : k < n
    · obtain ⟨⟨T, v⟩, hx⟩ : ∃ x, Ts[k]? = some x := ⟨_, List.getElem?_eq_getElem (by have := HT.out.1; omega)⟩
      obtain ⟨b, o, rfl, hy⟩ := HT.out.2 k T v hx
      obtain ⟨A1, c1, rfl, -, -⟩ := id hy.tr
      obtain ⟨y0, y1, y2, y3, y4, y5, y6, y7, ytr⟩ := hy.below hM.out.be
      have HTR := Lib.hid ytr
      have HLT := Lib.hid (HL.out k T _ hx)
      have HX := Lib.hid hx
      clear ytr hy hx
      go_wp2_with fail
      refine (twin_c T _ _ HTR.out HLT.out).mono ?_
      rintro e w2 ⟨v1, rfl, hR, hb⟩
      obtain ⟨A2, c2, rfl⟩ := Kd.R_slice hR
      obtain ⟨inner, hown⟩ := Kd.R_own hM.out.r
      have hR' := Kd.R_lower (Kd.R_new hR hown) hM.out.be.size
      have HP := Lib.hid (k26_mkM w2 w.heap.size _ T.s hR')
      have HM2 := Lib.hid (Kd.R_below hM.out.r hb)
      have HB2 := Lib.hid (below_call hM.out.be (Nat.le_refl _) hb)
      have hlen : ((Ts.take k).map fun p => p.1.s).length = k := by rw [List.length_map, List.length_take, HT.out.1]; omega
      have hsn : ((Ts.take k).map fun p => p.1.s) ++ [T.s] = (Ts.take (k + 1)).map fun p => p.1.s := by rw [List.take_add_one, HX.out]; simp
      have hlen2 : ((Ts.take (k + 1)).map fun p => p.1.s).length = k + 1 := by rw [List.length_map, List.length_take, HT.out.1]; omega
      have hs2 : w.heap.size ≤ w2.heap.size := HB2.out.size
      clear hR hR' hown y0 y1 y2 y3 y4 y5 y6 y7 hb hM HTR
      go_wp2_with (first
        | (at_builtin; go_loud (refine Kd.R_append k26 (w0 := w) w.heap.size rfl (.tmp 22) (.tmp 28) 46 26 (.agg #[.int .i64 0, .slice none 0 0, .int .i64 0, .int .i64 0, .int .i64 0, .int .i64 0, .int .i64 0, .int .i64 0]) 80 rfl Tryd.underlying46 info26 rfl (by decide) (by omega) (.slice Am k cm) ((Ts.take k).map fun p => p.1.s) T.s [.int .i64 T.p, .slice A2 T.js.length c2, .int .i64 T.g, .int .i64 T.o, .int .i64 T.l, .int .i64 T.d, .int .i64 T.c, .int .i64 T.t] (fun _ => True) (fun q => True ∧ some q ≠ (Value.slice Am k cm).ownBlock) rfl rfl HP.out (fun q hq => hq) (fun _ _ => trivial) HM2.out HB2.out hs2 (by rw [hlen]; omega) ?_); intro v3 w3 hR3 hB3 hg3 hat3; rw [hsn] at hR3; obtain ⟨A3, c3, e3⟩ := Kd.R_slice hR3; rw [hlen2] at e3; subst e3; have HM3 : Hid (MR w w3 A3 (k + 1) c3 Ts) := Lib.hid ⟨hR3, hB3⟩; clear hR3 hB3 hg3 hat3))
      clear hlen hsn hlen2 hs2
      go_roundw
      case rel => exact ⟨k + 1, by omega, by go_num, A3, c3, rfl, HM3⟩
      case measure => simp [intOf]; omega
    · obtain rfl : k = n := by omega
      obtain ⟨hcm, Us, hU, hUs⟩ := mine_TL hM.out.r
      have hTk : Ts.take k = Ts := List.take_of_length_le (by rw [HT.out.1]; omega)
      rw [hTk] at hUs
      obtain ⟨z, hz⟩ := pick_some (Ts.map fun p => p.1.s) (by rw [List.length_map, HT.out.1]; omega) k 0 (k + 1) (-1) (by rw [List.length_map, HT.out.1]; omega) (by omega) (by omega) (by omega) (by omega)
      have HLR : Hid (LR w wr Am A k Us Ts) := Lib.hid ⟨hU, HT.out.below hM.out.be, hM.out.be⟩
      have HU := Lib.hid hUs
      have HZ := Lib.hid hz
      have HCM := Lib.hid hcm
      clear hU hUs hz hTk hcm hM
      go_wp2_with fail
      refine (picks_c Am k cm Us _ HLR.out.m HCM.out (by omega) (z := z) (by rw [HU.out]; exact HZ.out)).1.mono ?_
      rintro e w2 ⟨rfl, hb⟩
      replace HLR := Lib.hid (HLR.out.below hb)
      clear hb
      go_wp2_with fail
      refine (picks_c A k c Ts _ HLR.out.l HNC.out (by omega) (z := z) HZ.out).2.mono ?_
      rintro e w3 ⟨rfl, hb⟩
      replace HLR := Lib.hid (HLR.out.below hb)
      clear hb HZ
      go_wp2_with fail
      go_loopw [7] (fun i wr => ∃ j : Nat, j ≤ k ∧ i = .int .i64 j ∧ Hid (LR w wr Am A k Us Ts)) (fun i _ => k - (intOf i).toNat)
      case atStart => exact ⟨0, Nat.zero_le _, rfl, HLR⟩
      case round =>
        clear HLR
        obtain ⟨j, hj, rfl, hR⟩ := hrel
        by_cases hlt2 : j < k
        · obtain ⟨⟨T, v⟩, hx⟩ : ∃ x, Ts[j]? = some x := ⟨_, List.getElem?_eq_getElem (by have := HT.out.1; omega)⟩
          obtain ⟨⟨U, u⟩, hu⟩ : ∃ x, Us[j]? = some x := ⟨_, List.getElem?_eq_getElem (by have := hR.out.m.1; omega)⟩
          have hUT : T = U := Tk.s_inj (by
            have e := congrArg (fun l => l[j]?) HU.out
            simp only [List.getElem?_map, hx, hu, Option.map_some, Option.some.injEq] at e
            exact e.symm)
          subst hUT
          obtain ⟨b, o, rfl, hy⟩ := hR.out.l.2 j T v hx
          obtain ⟨bm, om, rfl, hz⟩ := hR.out.m.2 j T u hu
          obtain ⟨A1, c1, rfl, -, -⟩ := id hy.tr
          obtain ⟨A2, c2, rfl, -, -⟩ := id hz.tr
          have HLb : Hid (T.js.length ≤ 9223372036854775800) := Lib.hid (by have := HL.out j T _ hx; omega)
          obtain ⟨D, hD⟩ : ∃ D, D = T.drop := ⟨_, rfl⟩
          have HLd : Hid (D.js.length ≤ 9223372036854775800) := by rw [hD]; exact Lib.hid (Nat.zero_le _)
          have HD := Lib.hid hD
          have HXu : Hid (TAt wr bm om j T (.slice A2 T.js.length c2)) := Lib.hid hz
          have HXv : Hid (TAt wr b o j T (.slice A1 T.js.length c1)) := Lib.hid hy
          have HXe : Hid (BMW wr wr) := Lib.hid (Below.refl _ wr)
          have HBwr := Lib.hid hR.out.be
          have HBW := True.intro
          clear hD hx hu hy hz
          obtain ⟨tu_0, tu_1, tu_2, tu_3, tu_4, tu_5, tu_6, tu_7, -⟩ := HXu.out
          have lu := HXu.out.lt
          go_wp2_with fail
          clear tu_0 tu_1 tu_2 tu_3 tu_4 tu_5 tu_6 tu_7 lu
          refine (twait_c T _ now _ HXu.out.tr HLb.out).mono ?_
          rintro e w11 ⟨rfl, hb⟩
          have HBw11 := Lib.hid (below_call HBwr.out (by first | exact Nat.le_refl _ | (have := HBW.out; omega)) hb)
          replace HXu := Lib.hid (HXu.out.below hb)
          replace HXv := Lib.hid (HXv.out.below hb)
          replace HXe := Lib.hid (HXe.out.below hb)
          clear HBwr
          clear hb
          obtain ⟨tv_0, tv_1, tv_2, tv_3, tv_4, tv_5, tv_6, tv_7, -⟩ := HXv.out
          have lv := HXv.out.lt
          go_wp2_with fail
          clear tv_0 tv_1 tv_2 tv_3 tv_4 tv_5 tv_6 tv_7 lv
          refine (rwait_c T _ now _ HXv.out.tr HLb.out).mono ?_
          rintro e w12 ⟨rfl, hb⟩
          have HBw12 := Lib.hid (below_call HBw11.out (by first | exact Nat.le_refl _ | (have := HBW.out; omega)) hb)
          replace HXu := Lib.hid (HXu.out.below hb)
          replace HXv := Lib.hid (HXv.out.below hb)
          replace HXe := Lib.hid (HXe.out.below hb)
          clear HBw11
          clear hb
          obtain ⟨tu_0, tu_1, tu_2, tu_3, tu_4, tu_5, tu_6, tu_7, -⟩ := HXu.out
          have lu := HXu.out.lt
          go_wp2_with fail
          clear tu_0 tu_1 tu_2 tu_3 tu_4 tu_5 tu_6 tu_7 lu
          refine (tdrop_d T D HD.out _ _ HXu.out.tr).mono ?_
          rintro e w13 ⟨v3, rfl, hR3, hb⟩
          have HBw13 := Lib.hid (below_call HBw12.out (by first | exact Nat.le_refl _ | (have := HBW.out; omega)) hb)
          replace HXu := Lib.hid (HXu.out.below hb)
          replace HXv := Lib.hid (HXv.out.below hb)
          replace HXe := Lib.hid (HXe.out.below hb)
          obtain ⟨A3, c3, rfl, -, -⟩ := id hR3
          clear HBw12
          obtain ⟨bx, hbx⟩ : ∃ y, y = w13.heap.size := ⟨_, rfl⟩
          obtain ⟨Wx, hWx⟩ : ∃ y, y = w13.alloc (.cells (Tk.cs D (.slice A3 D.js.length c3)).1 26) := ⟨_, rfl⟩
          have HPu := HXu
          have HPv := HXv
          have HPe := HXe
          replace HXu : Hid (TAt Wx bm om j T (.slice A2 T.js.length c2)) := by rw [hWx]; exact Lib.hid (HXu.out.alloc _)
          replace HXv : Hid (TAt Wx b o j T (.slice A1 T.js.length c1)) := by rw [hWx]; exact Lib.hid (HXv.out.alloc _)
          replace HXe : Hid (BMW Wx wr) := by rw [hWx]; exact Lib.hid (HXe.out.alloc _)
          have HXx : Hid (TX Wx bx D (.slice A3 D.js.length c3)) := by rw [hWx, hbx]; exact Lib.hid (TX.new (hR3))
          have HBWx : Hid (Below w.heap.size w Wx) := by rw [hWx]; exact Lib.hid (below_alloc HBw13.out (Nat.le_refl _) _)
          have HWx := Lib.hid hWx
          have Hbx := Lib.hid hbx
          clear hWx hbx HBw13
          clear hb
          obtain ⟨tv_0, tv_1, tv_2, tv_3, tv_4, tv_5, tv_6, tv_7, -⟩ := HPv.out
          have lv := HPv.out.lt
          go_wp2_with fail
          rw [← HWx.out, ← Hbx.out]
          clear HPu HPv HPe
          clear tv_0 tv_1 tv_2 tv_3 tv_4 tv_5 tv_6 tv_7 lv
          refine (rdrop_d T D HD.out _ _ HXv.out.tr).mono ?_
          rintro e w14 ⟨v4, rfl, hR4, hb⟩
          have HBw14 := Lib.hid (below_call HBWx.out (by first | exact Nat.le_refl _ | (have := HBW.out; omega)) hb)
          replace HXu := Lib.hid (HXu.out.below hb)
          replace HXv := Lib.hid (HXv.out.below hb)
          replace HXe := Lib.hid (HXe.out.below hb)
          replace HXx := Lib.hid (HXx.out.below hb)
          obtain ⟨A4, c4, rfl, -, -⟩ := id hR4
          clear HBWx
          obtain ⟨bz, hbz⟩ : ∃ y, y = w14.heap.size := ⟨_, rfl⟩
          obtain ⟨Wz, hWz⟩ : ∃ y, y = w14.alloc (.cells (Tk.cs D (.slice A4 D.js.length c4)).1 26) := ⟨_, rfl⟩
          have HPu := HXu
          have HPv := HXv
          have HPe := HXe
          have HPx := HXx
          replace HXu : Hid (TAt Wz bm om j T (.slice A2 T.js.length c2)) := by rw [hWz]; exact Lib.hid (HXu.out.alloc _)
          replace HXv : Hid (TAt Wz b o j T (.slice A1 T.js.length c1)) := by rw [hWz]; exact Lib.hid (HXv.out.alloc _)
          replace HXe : Hid (BMW Wz wr) := by rw [hWz]; exact Lib.hid (HXe.out.alloc _)
          replace HXx : Hid (TX Wz bx D (.slice A3 D.js.length c3)) := by rw [hWz]; exact Lib.hid (HXx.out.alloc _)
          have HXz : Hid (TX Wz bz D (.slice A4 D.js.length c4)) := by rw [hWz, hbz]; exact Lib.hid (TX.new (hR4))
          have HBWz : Hid (Below w.heap.size w Wz) := by rw [hWz]; exact Lib.hid (below_alloc HBw14.out (Nat.le_refl _) _)
          have HWz := Lib.hid hWz
          have Hbz := Lib.hid hbz
          clear hWz hbz HBw14
          clear hb
          go_wp2_with fail
          rw [← HWz.out, ← Hbz.out]
          have HQ0 : RA wr T D (.slice A2 T.js.length c2) (.slice A1 T.js.length c1) (.slice A3 D.js.length c3) (.slice A4 D.js.length c4) bm om b o j bx bz Wz := ⟨HXu.out, HXv.out, HXx.out, HXz.out, HXe.out⟩
          have HF0 := HQ0.full
          go_split_ands
          clear HXu HXv HXx HXz HXe
          clear HPu HPv HPe HPx
          go_region_held3 (fun w' => w'.cell? ⟨bm, om + j * 8, none⟩ = some (.int .i64 T.p) ∧ w'.cell? ⟨bm, om + j * 8 + 1, none⟩ = some ((.slice A2 T.js.length c2)) ∧ w'.cell? ⟨bm, om + j * 8 + 2, none⟩ = some (.int .i64 T.g) ∧ w'.cell? ⟨bm, om + j * 8 + 3, none⟩ = some (.int .i64 T.o) ∧ w'.cell? ⟨bm, om + j * 8 + 4, none⟩ = some (.int .i64 T.l) ∧ w'.cell? ⟨bm, om + j * 8 + 5, none⟩ = some (.int .i64 T.d) ∧ w'.cell? ⟨bm, om + j * 8 + 6, none⟩ = some (.int .i64 T.c) ∧ w'.cell? ⟨bm, om + j * 8 + 7, none⟩ = some (.int .i64 T.t) ∧ w'.cell? ⟨b, o + j * 8, none⟩ = some (.int .i64 T.p) ∧ w'.cell? ⟨b, o + j * 8 + 1, none⟩ = some ((.slice A1 T.js.length c1)) ∧ w'.cell? ⟨b, o + j * 8 + 2, none⟩ = some (.int .i64 T.g) ∧ w'.cell? ⟨b, o + j * 8 + 3, none⟩ = some (.int .i64 T.o) ∧ w'.cell? ⟨b, o + j * 8 + 4, none⟩ = some (.int .i64 T.l) ∧ w'.cell? ⟨b, o + j * 8 + 5, none⟩ = some (.int .i64 T.d) ∧ w'.cell? ⟨b, o + j * 8 + 6, none⟩ = some (.int .i64 T.c) ∧ w'.cell? ⟨b, o + j * 8 + 7, none⟩ = some (.int .i64 T.t) ∧ w'.cell? ⟨bx, 0, none⟩ = some (.int .i64 D.p) ∧ w'.cell? ⟨bx, 1, none⟩ = some ((.slice A3 D.js.length c3)) ∧ w'.cell? ⟨bx, 2, none⟩ = some (.int .i64 D.g) ∧ w'.cell? ⟨bx, 3, none⟩ = some (.int .i64 D.o) ∧ w'.cell? ⟨bx, 4, none⟩ = some (.int .i64 D.l) ∧ w'.cell? ⟨bx, 5, none⟩ = some (.int .i64 D.d) ∧ w'.cell? ⟨bx, 6, none⟩ = some (.int .i64 D.c) ∧ w'.cell? ⟨bx, 7, none⟩ = some (.int .i64 D.t) ∧ w'.cell? ⟨bz, 0, none⟩ = some (.int .i64 D.p) ∧ w'.cell? ⟨bz, 1, none⟩ = some ((.slice A4 D.js.length c4)) ∧ w'.cell? ⟨bz, 2, none⟩ = some (.int .i64 D.g) ∧ w'.cell? ⟨bz, 3, none⟩ = some (.int .i64 D.o) ∧ w'.cell? ⟨bz, 4, none⟩ = some (.int .i64 D.l) ∧ w'.cell? ⟨bz, 5, none⟩ = some (.int .i64 D.d) ∧ w'.cell? ⟨bz, 6, none⟩ = some (.int .i64 D.c) ∧ w'.cell? ⟨bz, 7, none⟩ = some (.int .i64 D.t) ∧ RA wr T D (.slice A2 T.js.length c2) (.slice A1 T.js.length c1) (.slice A3 D.js.length c3) (.slice A4 D.js.length c4) bm om b o j bx bz w')
            (first
              | (go_split_ands; exact RA.full (RA.below (by assumption) hb))
              | (go_split_ands; exact RA.full (RA.drew (by assumption))))
            (first
              | (go_at_call 22; go_split_ands; (with_reducible refine (twork_c T (.slice A2 T.js.length c2) _ (RA.tu (by assumption)).tr HLb.out).mono ?_); rintro e w' ⟨rfl, hb⟩)
              | (go_at_call 35; go_split_ands; (with_reducible refine (rwork_c T (.slice A1 T.js.length c1) _ (RA.tv (by assumption)).tr HLb.out).mono ?_); rintro e w' ⟨rfl, hb⟩)
              | (go_at_call 13; go_split_ands; (with_reducible refine (same_t D (.slice A3 D.js.length c3) (.slice A4 D.js.length c4) _ (RA.x (by assumption)).tr (RA.y (by assumption)).tr HLd.out).mono ?_); rintro e w' ⟨rfl, hb⟩)
              | (go_at_call 13; go_split_ands; (with_reducible refine (same_t T (.slice A2 T.js.length c2) (.slice A1 T.js.length c1) _ (RA.tu (by assumption)).tr (RA.tv (by assumption)).tr HLb.out).mono ?_); rintro e w' ⟨rfl, hb⟩))
          all_goals
            go_split_ands
            have HBF := Lib.hid (RA.be (by assumption : RA wr T D (.slice A2 T.js.length c2) (.slice A1 T.js.length c1) (.slice A3 D.js.length c3) (.slice A4 D.js.length c4) bm om b o j bx bz w'))
            go_wp2
            go_roundw
            case rel => exact ⟨j + 1, by omega, by go_num, Lib.hid (hR.out.below HBF.out)⟩
            case measure => simp [intOf]; omega
        · obtain rfl : j = k := by omega
          go_wp2_with fail
          refine (works_ok _).mono ?_
          rintro e we ⟨rfl, hb⟩
          have HBE := below_call hR.out.be (Nat.le_refl _) hb
          go_wp2
          go_ret
          exact ⟨rfl, HBE⟩

theorem lasks_rd {a : Option Addr} {n c : Nat} (now : Int) {w : World} (h0 : Rd46 w [.slice a n c]) :
    Calls Tryd.prog 9 #[.slice a n c, .int .i64 now] w fun e w' => e = .returned (.bool true) ∧ Below w.heap.size w w' := by
  obtain ⟨Ts, h, hnc, hn, hl⟩ := tasks_of_rd h0
  exact lasks_ok a n c Ts now w h hnc hn hl

end Go.Proofs.YtkfjlkpickeobaaDoor
