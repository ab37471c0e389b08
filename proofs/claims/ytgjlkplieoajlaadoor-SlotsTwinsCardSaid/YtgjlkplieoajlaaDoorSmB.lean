/- Tables of slots: All, Len, Slots, New; the reference's table. -/
import Derived.Test.YtgjlkplieoajlaaDoorSmA
set_option linter.unusedVariables false
set_option linter.unusedSimpArgs false
namespace Go.Proofs.YtgjlkplieoajlaaDoor
open Go.RowKit
open Go.Proofs.YtgjlkplieoajlaaDoorW.PrintWords (Kd Drawn0 Kept rd rdOf)
open Go.Proofs.YtgjlkplieoajlaaDoor.PSlotsTwins
set_option maxRecDepth 100000

theorem gen_call {P : Program} {f : FuncId} {args : Array Value} {W : World} {Q : Ending → World → Prop} (R : World → Prop) (h : R W) (k : ∀ W', R W' → Calls P f args W' Q) : Calls P f args W Q := k W h

/-- The handles of what is taken, from the slot i on. -/
def allF (kind : Int) : Nat → List Sl → List Int
  | _, [] => []
  | i, x :: r => if x.f1 = true then mk kind i x.f0 :: allF kind (i + 1) r else allF kind (i + 1) r
def allH (kind : Int) (xs : List Sl) : List Int := allF kind 0 xs
theorem allF_snoc (kind : Int) (x : Sl) : ∀ (xs : List Sl) (i : Nat), allF kind i (xs ++ [x]) = allF kind i xs ++ if x.f1 = true then [mk kind (i + xs.length : Nat) x.f0] else []
  | [], i => by simp only [List.nil_append, allF, List.length_nil, Nat.add_zero]
  | y :: ys, i => by
    simp only [List.cons_append, allF, allF_snoc kind x ys (i + 1), List.length_cons, show i + 1 + ys.length = i + (ys.length + 1) by omega]
    split <;> rfl
theorem allF_le (kind : Int) : ∀ (xs : List Sl) (i : Nat), (allF kind i xs).length ≤ xs.length
  | [], i => by simp [allF]
  | y :: ys, i => by
    have := allF_le kind ys (i + 1)
    simp only [allF]
    split <;> simp <;> omega
theorem take_snoc' {α : Type} (xs : List α) (k : Nat) (x : α) (h : xs[k]? = some x) : xs.take (k + 1) = xs.take k ++ [x] := by
  rw [List.take_add_one, h]; rfl
theorem all_take (kind : Int) (xs : List Sl) (k : Nat) (x : Sl) (h : xs[k]? = some x) : allH kind (xs.take (k + 1)) = allH kind (xs.take k) ++ if x.f1 = true then [mk kind k x.f0] else [] := by
  have hk := (List.getElem?_eq_some_iff.1 h).1
  unfold allH
  rw [take_snoc' xs k x h, allF_snoc]
  simp [Nat.min_eq_left (Nat.le_of_lt hk)]

set_option maxHeartbeats 1000000 in
theorem all_ok (t g n cap : Nat) (kind : Int) (xs : List Sl) (w : World) (H : TB w t g n cap kind xs) (hT : Tk kind n xs) :
    Calls Tryd.prog 24 #[.pointer (some ⟨t, 0, none⟩)] w fun e w' => ∃ v, e = .returned v ∧ (Kd.int .i64).R 39 w' w.heap.size (fun _ => True) v (allH kind xs) ∧ Below w.heap.size w w' := by
  have c1 := H.c1
  have hl := H.len
  have hn := hT.n1
  have HH := Lib.hid H
  have HT := Lib.hid hT
  clear H hT
  go_enter Tryd.func24, Tryd.ntmps24
  go_wp2
  clear c1
  go_loopw [3, 13] (fun v i wr => ∃ k : Nat, k ≤ n ∧ i = .int .i64 k ∧ Hid ((Kd.int .i64).R 39 wr w.heap.size (fun _ => True) v (allH kind (xs.take k))) ∧ Hid (Below w.heap.size w wr)) (fun _ i _ => n - (intOf i).toNat)
  case atStart => exact ⟨0, Nat.zero_le _, rfl, Lib.hid (Kd.R_nil _ _ _ _ _), Lib.hid (Below.refl _ _)⟩
  case round =>
    obtain ⟨k, hk, rfl, hR, hB⟩ := hrel
    by_cases hlt : k < n
    · obtain ⟨x, hx⟩ : ∃ x, xs[k]? = some x := ⟨xs[k], List.getElem?_eq_getElem (by omega)⟩
      have HW := Lib.hid (HH.out.below hB.out)
      have e0 := HW.out.e0 hx
      have e1 := HW.out.e1 hx
      have e2 := HW.out.e2 hx
      have AT := Lib.hid (all_take kind xs k x hx)
      have HX := Lib.hid hx
      clear hx
      obtain ⟨gen, tk, thing⟩ := x
      cases tk with
      | false =>
        go_wp2
        go_roundw
        case rel => exact ⟨k + 1, by omega, by go_num, Lib.hid (by rw [AT.out]; simpa using Kd.R_alloc hR.out _), Lib.hid (below_alloc hB.out (Nat.le_refl _) _)⟩
        case measure => simp [intOf]; omega
      | true =>
        go_wp2_with fail
        have HB1 := Lib.hid (below_alloc hB.out (Nat.le_refl _) (.cells #[.int .i64 gen, .bool true, .int .i64 thing] 90))
        have HR1 := Lib.hid (Kd.R_alloc hR.out (.cells #[.int .i64 gen, .bool true, .int .i64 thing] 90))
        have HW1 := Lib.hid (HW.out.below ((Below.refl _ wr).alloc (Nat.le_refl _) (.cells #[.int .i64 gen, .bool true, .int .i64 thing] 90)))
        generalize (wr.alloc (.cells #[.int .i64 gen, .bool true, .int .i64 thing] 90)) = W1 at HB1 HR1 HW1 ⊢
        clear HW hR hB e0 e1 e2
        refine (name_q t g n cap k kind xs _ W1 HW1.out HT.out HX.out (HT.out.top k _ HX.out rfl)).mono ?_
        rintro e w' ⟨rfl, m, hw⟩
        have HB2 := Lib.hid (show Below w.heap.size w w' by rw [hw]; exact below_drewN' HB1.out m)
        have HR2 := Lib.hid (show (Kd.int .i64).R 39 w' w.heap.size (fun _ => True) u3 (allH kind (xs.take k)) by rw [hw]; exact Kd.R_drewN HR1.out m)
        clear hw HB1 HR1 HW1
        have hle : (allH kind (xs.take k)).length ≤ 4096 := by
          have := allF_le kind (xs.take k) 0
          unfold allH
          simp only [List.length_take] at this
          omega
        go_wp2_with (first
          | (at_builtin; refine Kd.R_append (Kd.int .i64) (w0 := w) w.heap.size rfl (.tmp 20) (.tmp 24) 38 39 (.int .i64 0) 8 rfl Tryd.underlying38 info39 rfl (by decide) (by omega) _ (allH kind (xs.take k)) (mk kind k gen) [.int .i64 (mk kind k gen)] (fun _ => True) (fun _ => False) rfl rfl rfl (fun _ hk => hk.elim) (fun _ _ => trivial) HR2.out HB2.out (by have := HB2.out.size; omega) (by omega) ?_; intro v1 w1 hR1 hB1 hg1 hat1)
          | fail)
        have HR3 := Lib.hid (show (Kd.int .i64).R 39 w1 w.heap.size (fun _ => True) v1 (allH kind (xs.take (k + 1))) by rw [AT.out]; exact hR1)
        have HB3 := Lib.hid hB1
        clear hR1 hB1 hg1 hat1
        go_wp2
        go_roundw
        case rel => exact ⟨k + 1, by omega, by go_num, HR3, HB3⟩
        case measure => simp [intOf]; omega
    · go_wp2
      go_ret
      have e : k = n := by omega
      subst e
      refine ⟨_, rfl, ?_, hB.out⟩
      have := hR.out
      rwa [List.take_of_length_le (by omega)] at this

theorem all_nil (w : World) :
    Calls Tryd.prog 24 #[.pointer none] w fun e w' => e = .returned (.slice none 0 0) ∧ w = w' := by
  go_enter Tryd.func24, Tryd.ntmps24
  go_wp2
  go_ret
  exact ⟨rfl, rfl⟩

theorem len_ok (t g n cap : Nat) (kind : Int) (xs : List Sl) (w : World) (H : TB w t g n cap kind xs) (hT : Tk kind n xs) :
    Calls Tryd.prog 18 #[.pointer (some ⟨t, 0, none⟩)] w fun e w' => e = .returned (.int .i64 ((allH kind xs).length : Int)) ∧ Below w.heap.size w w' := by
  have A := Lib.hid (all_ok t g n cap kind xs w H hT)
  clear H hT
  go_enter Tryd.func18, Tryd.ntmps18
  go_wp2_with fail
  refine A.out.mono ?_
  rintro e w' ⟨v, rfl, hR, hB⟩
  obtain ⟨A1, c1, rfl⟩ := Kd.R_slice hR
  have HB := Lib.hid hB
  clear hR hB
  go_wp2
  go_ret
  exact ⟨rfl, HB.out⟩

end Go.Proofs.YtgjlkplieoajlaaDoor

set_option linter.unusedVariables false
set_option linter.unusedSimpArgs false
namespace Go.Proofs.YtgjlkplieoajlaaDoor
open Go.RowKit
open Go.Proofs.YtgjlkplieoajlaaDoorW.PrintWords (Kd Drawn0 Kept rd rdOf)
open Go.Proofs.YtgjlkplieoajlaaDoor.PSlotsTwins
set_option maxRecDepth 100000
theorem cell_al {w : World} {a : Addr} {v : Value} {o : Obj} (h : w.cell? a = some v) : (w.alloc o).cell? a = some v := by
  rw [World.cell?_alloc_lt _ _ a (World.block_lt_of_cell? w a h)]; exact h
theorem cell_at {W : World} {g : Nat} {v : Value} {T : TypeId} (h : W.heap.size = g) : (W.alloc (.cells #[v] T)).cell? ⟨g, 0, none⟩ = some v := by
  subst h; simp
theorem cell_one {W : World} {g : Nat} {x : Value} (h : W.cell? ⟨g, 0, none⟩ = some x) : ∀ j u, [x][j]? = some u → W.cell? ((⟨g, 0, none⟩ : Addr).add j) = some u := by
  intro j u hj
  rw [YtgjlkplieoajlaaDoorW.PrintWords.add_plain]
  match j with
  | 0 => simp at hj; subst hj; exact h
  | j + 1 => simp at hj
theorem grown_cell {w w1 : World} {row : Option Nat} (h : w.grownBy w1 row) {b o : Nat} {v : Value} (hb : w.cell? ⟨b, o, none⟩ = some v) (hne : some b ≠ row) : w1.cell? ⟨b, o, none⟩ = some v := by
  have hlt := World.block_lt_of_cell? w ⟨b, o, none⟩ hb
  have := h.block b hlt hne
  simpa [World.cell?, this] using hb
theorem own_ne_types {w : World} {b1 b2 : Nat} {e1 e2 : TypeId} {s1 s2 n1 n2 : Nat} {v1 v2 : Value} {x1 x2 : List Value} (h1 : w.ownsRow b1 e1 s1 v1 n1 x1) (h2 : w.ownsRow b2 e2 s2 v2 n2 x2) (ht : e1 ≠ e2) : v2.ownBlock = none ∨ v2.ownBlock ≠ v1.ownBlock := by
  rcases h2.2 with ⟨rfl, _⟩ | ⟨g, cap, cur, rfl, hg, hh, r⟩
  · exact .inl rfl
  · refine .inr (fun e => ?_)
    obtain ⟨cells, hc⟩ := YtgjlkplieoajlaaDoorW.PrintWords.own_typed h1 g (by rw [← e]; rfl)
    rw [hc] at hh
    simp at hh
    exact ht hh.2
set_option maxHeartbeats 1000000 in
theorem slots_ok (t g n cap : Nat) (kind : Int) (xs : List Sl) (w : World) (H : TB w t g n cap kind xs) (hT : Tk kind n xs) :
    Calls Tryd.prog 23 #[.pointer (some ⟨t, 0, none⟩)] w fun e w' => ∃ v u, e = .returned (.tuple #[v, u]) ∧ (Kd.int .i64).R 3 w' w.heap.size (fun _ => True) v (xs.map (·.f0)) ∧ Kd.bool.R 4 w' w.heap.size (fun _ => True) u (xs.map (·.f1)) ∧ Below w.heap.size w w' := by
  have c1 := H.c1
  have hl := H.len
  have hn := hT.n1
  have HH := Lib.hid H
  have HT := Lib.hid hT
  clear H hT
  obtain ⟨i0, hi, hz0, hz1, hz2⟩ := info_parts info3
  obtain ⟨j0, hj, hy0, hy1, hy2⟩ := info_parts info4
  go_enter Tryd.func23, Tryd.ntmps23
  go_wp2
  clear c1
  go_loopw [4, 5, 15] (fun v u i wr => ∃ k : Nat, k ≤ n ∧ i = .int .i64 k ∧ Hid ((Kd.int .i64).R 3 wr w.heap.size (fun _ => True) v ((xs.take k).map (·.f0))) ∧ Hid (Kd.bool.R 4 wr w.heap.size (fun _ => True) u ((xs.take k).map (·.f1))) ∧ Hid (Below w.heap.size w wr)) (fun _ _ i _ => n - (intOf i).toNat)
  case atStart => exact ⟨0, Nat.zero_le _, rfl, Lib.hid (Kd.R_nil _ _ _ _ _), Lib.hid (Kd.R_nil _ _ _ _ _), Lib.hid (Below.refl _ _)⟩
  case round =>
    obtain ⟨k, hk, rfl, hR, hS, hB⟩ := hrel
    by_cases hlt : k < n
    · obtain ⟨x, hx⟩ : ∃ x, xs[k]? = some x := ⟨xs[k], List.getElem?_eq_getElem (by omega)⟩
      have HW := Lib.hid (HH.out.below hB.out)
      have e0 := HW.out.e0 hx
      have e1 := HW.out.e1 hx
      have e2 := HW.out.e2 hx
      have HX := Lib.hid hx
      clear hx
      obtain ⟨gen, tk, thing⟩ := x
      go_wp2_with fail
      have B4 := Kd.R_lt hR.out
      have B5 := Kd.R_lt hS.out
      have HI := Lib.hid (Kd.own_of_R (Kd.R_alloc hR.out (.cells #[.int .i64 gen, .bool tk, .int .i64 thing] 90)))
      have HJ := Lib.hid (Kd.own_of_R (Kd.R_alloc hS.out (.cells #[.int .i64 gen, .bool tk, .int .i64 thing] 90)))
      have HB0 := Lib.hid (below_alloc hB.out (Nat.le_refl _) (.cells #[.int .i64 gen, .bool tk, .int .i64 thing] 90))
      have q0 : (wr.alloc (.cells #[.int .i64 gen, .bool tk, .int .i64 thing] 90)).cell? ⟨wr.heap.size, 0, none⟩ = some (.int .i64 gen) := by simp
      have q1 : (wr.alloc (.cells #[.int .i64 gen, .bool tk, .int .i64 thing] 90)).cell? ⟨wr.heap.size, 1, none⟩ = some (.bool tk) := by simp
      have N4 := Lib.hid (show some wr.heap.size ≠ u4.ownBlock from fun e => by have := B4 _ e.symm; omega)
      have L4 := Lib.hid (show ∀ k, u4.ownBlock = some k → k < (wr.alloc (.cells #[.int .i64 gen, .bool tk, .int .i64 thing] 90)).heap.size from fun k e => by have := B4 _ e; simp; omega)
      have L5 := Lib.hid (show ∀ k, u5.ownBlock = some k → k < (wr.alloc (.cells #[.int .i64 gen, .bool tk, .int .i64 thing] 90)).heap.size from fun k e => by have := B5 _ e; simp; omega)
      generalize (wr.alloc (.cells #[.int .i64 gen, .bool tk, .int .i64 thing] 90)) = W0 at HI HJ HB0 q0 q1 L4 L5 ⊢
      generalize wr.heap.size = B at q0 q1 N4 ⊢
      clear B4 B5 e0 e1 e2 HW hR hS hB
      have N45 : Hid (u5.ownBlock = none ∨ u5.ownBlock ≠ u4.ownBlock) := Lib.hid (own_ne_types HI.out HJ.out (by decide))
      have T4 := Lib.hid (show YtgjlkplieoajlaaDoorW.PrintWords.encs (Value.int .i64) ((xs.take (k + 1)).map (·.f0)) = YtgjlkplieoajlaaDoorW.PrintWords.encs (Value.int .i64) ((xs.take k).map (·.f0)) ++ [.int .i64 gen] by rw [take_snoc' xs k _ HX.out]; simp [YtgjlkplieoajlaaDoorW.PrintWords.encs])
      have T5 := Lib.hid (show YtgjlkplieoajlaaDoorW.PrintWords.encs Value.bool ((xs.take (k + 1)).map (·.f1)) = YtgjlkplieoajlaaDoorW.PrintWords.encs Value.bool ((xs.take k).map (·.f1)) ++ [.bool tk] by rw [take_snoc' xs k _ HX.out]; simp [YtgjlkplieoajlaaDoorW.PrintWords.encs])
      have M4 := Lib.hid (show ((xs.take (k + 1)).map (·.f0)).length = k + 1 by simp; omega)
      have M5 := Lib.hid (show ((xs.take (k + 1)).map (·.f1)).length = k + 1 by simp; omega)
      have len4 : ((xs.take k).map (·.f0)).length = k := by simp; omega
      have len5 : ((xs.take k).map (·.f1)).length = k := by simp; omega
      rw [len4] at HI
      rw [len5] at HJ
      have s0 := HB0.out.size
      have hBl : B < W0.heap.size := World.block_lt_of_cell? W0 ⟨B, 0, none⟩ q0
      go_region_law (first
        | (refine step_append_lies _ rfl (.tmp 19) (.tmp 22) 27 rfl w.heap.size 3 i0 (.int .i64 0) 1 8 Tryd.underlying27 hi hz0 hz1 hz2 rfl (by decide) u4 k (YtgjlkplieoajlaaDoorW.PrintWords.encs (Value.int .i64) ((xs.take k).map (·.f0))) rfl ?own ⟨W0.heap.size, 0, none⟩ 1 1 [.int .i64 gen] rfl rfl ?cell (fun u hu => by simp at hu; subst hu; rfl) (by omega) (by unfold maxLen; omega) (by omega) ?bas _ rfl ?_; (case own => repeat (first | exact HI.out | refine World.ownsRow.alloc ?_ _)); (case cell => exact cell_one (cell_at (by first | rfl | simp))); (case bas => (first | omega | (simp; omega))); intro g1 cap1 w1 hown1 hgrow1 hat1 hlt1; have q1' := grown_cell hgrow1 (b := B) (o := 1) (v := .bool tk) (by repeat (first | exact q1 | refine cell_al ?_)) N4.out; have HJ' := Lib.hid (World.ownsRow.kept (show World.ownsRow _ w.heap.size 4 1 u5 k (YtgjlkplieoajlaaDoorW.PrintWords.encs Value.bool ((xs.take k).map (·.f1))) by repeat (first | exact HJ.out | refine World.ownsRow.alloc ?_ _)) hgrow1 N45.out); have hs1 := hgrow1.size; simp at hs1; have HG1 := Lib.hid hgrow1; have HO1 := Lib.hid hown1; clear hat1 hgrow1 hown1)
        | (refine step_append_lies _ rfl (.tmp 19) (.tmp 22) 27 rfl w.heap.size 3 i0 (.int .i64 0) 1 8 Tryd.underlying27 hi hz0 hz1 hz2 rfl (by decide) u4 k (YtgjlkplieoajlaaDoorW.PrintWords.encs (Value.int .i64) ((xs.take k).map (·.f0))) rfl ?own ⟨W0.heap.size + 1, 0, none⟩ 1 1 [.int .i64 gen] rfl rfl ?cell (fun u hu => by simp at hu; subst hu; rfl) (by omega) (by unfold maxLen; omega) (by omega) ?bas _ rfl ?_; (case own => repeat (first | exact HI.out | refine World.ownsRow.alloc ?_ _)); (case cell => exact cell_one (cell_at (by first | rfl | simp))); (case bas => (first | omega | (simp; omega))); intro g1 cap1 w1 hown1 hgrow1 hat1 hlt1; have q1' := grown_cell hgrow1 (b := B) (o := 1) (v := .bool tk) (by repeat (first | exact q1 | refine cell_al ?_)) N4.out; have HJ' := Lib.hid (World.ownsRow.kept (show World.ownsRow _ w.heap.size 4 1 u5 k (YtgjlkplieoajlaaDoorW.PrintWords.encs Value.bool ((xs.take k).map (·.f1))) by repeat (first | exact HJ.out | refine World.ownsRow.alloc ?_ _)) hgrow1 N45.out); have hs1 := hgrow1.size; simp at hs1; have HG1 := Lib.hid hgrow1; have HO1 := Lib.hid hown1; clear hat1 hgrow1 hown1; have r' := Lib.hid (grown_cell HG1.out (b := W0.heap.size) (o := 0) (v := .bool tk) (cell_al (cell_at rfl)) (fun e => by have := L4.out _ e.symm; omega)))
        | (refine step_append_lies _ rfl (.tmp 24) (.tmp 27) 28 rfl w.heap.size 4 j0 (.bool false) 1 1 Tryd.underlying28 hj hy0 hy1 hy2 rfl (by decide) u5 k (YtgjlkplieoajlaaDoorW.PrintWords.encs Value.bool ((xs.take k).map (·.f1))) rfl ?own ⟨w1.heap.size, 0, none⟩ 1 1 [.bool tk] rfl rfl ?cell (fun u hu => by simp at hu; subst hu; rfl) (by omega) (by unfold maxLen; omega) (by omega) ?bas _ rfl ?_; (case own => repeat (first | exact HJ'.out | refine World.ownsRow.alloc ?_ _)); (case cell => exact cell_one (cell_at rfl)); (case bas => (first | omega | (simp; omega))); intro g2 cap2 w2 hown2 hgrow2 hat2 hlt2; have HG2 := Lib.hid hgrow2; have HO2 := Lib.hid hown2; clear hat2 hgrow2 hown2)
        | (refine step_append_lies _ rfl (.tmp 24) (.tmp 27) 28 rfl w.heap.size 4 j0 (.bool false) 1 1 Tryd.underlying28 hj hy0 hy1 hy2 rfl (by decide) u5 k (YtgjlkplieoajlaaDoorW.PrintWords.encs Value.bool ((xs.take k).map (·.f1))) rfl ?own ⟨W0.heap.size, 0, none⟩ 1 1 [.bool tk] rfl rfl ?cell (fun u hu => by simp at hu; subst hu; rfl) (by omega) (by unfold maxLen; omega) (by omega) ?bas _ rfl ?_; (case own => repeat (first | exact HJ'.out | refine World.ownsRow.alloc ?_ _)); (case cell => exact cell_one r'.out); (case bas => (first | omega | (simp; omega))); intro g2 cap2 w2 hown2 hgrow2 hat2 hlt2; have HG2 := Lib.hid hgrow2; have HO2 := Lib.hid hown2; clear hat2 hgrow2 hown2)
        | (refine step_append_lies _ rfl (.tmp 24) (.tmp 27) 28 rfl w.heap.size 4 j0 (.bool false) 1 1 Tryd.underlying28 hj hy0 hy1 hy2 rfl (by decide) u5 k (YtgjlkplieoajlaaDoorW.PrintWords.encs Value.bool ((xs.take k).map (·.f1))) rfl ?own ⟨W0.heap.size + 1, 0, none⟩ 1 1 [.bool tk] rfl rfl ?cell (fun u hu => by simp at hu; subst hu; rfl) (by omega) (by unfold maxLen; omega) (by omega) ?bas _ rfl ?_; (case own => repeat (first | exact HJ'.out | refine World.ownsRow.alloc ?_ _)); (case cell => exact cell_one r'.out); (case bas => (first | omega | (simp; omega))); intro g2 cap2 w2 hown2 hgrow2 hat2 hlt2; have HG2 := Lib.hid hgrow2; have HO2 := Lib.hid hown2; clear hat2 hgrow2 hown2)
        | (refine step_append_lies _ rfl (.tmp 19) (.tmp 22) 27 rfl w.heap.size 3 i0 (.int .i64 0) 1 8 Tryd.underlying27 hi hz0 hz1 hz2 rfl (by decide) u4 k (YtgjlkplieoajlaaDoorW.PrintWords.encs (Value.int .i64) ((xs.take k).map (·.f0))) rfl ?own ⟨W0.heap.size, 0, none⟩ 1 1 [.int .i64 gen] rfl rfl ?cell (fun u hu => by simp at hu; subst hu; rfl) (by omega) (by unfold maxLen; omega) (by omega) ?bas _ rfl ?_; (case own => repeat (first | exact HI.out | refine World.ownsRow.alloc ?_ _)); (case cell => exact cell_one (cell_al (cell_at rfl))); (case bas => (first | omega | (simp; omega))); intro g1 cap1 w1 hown1 hgrow1 hat1 hlt1; have q1' := grown_cell hgrow1 (b := B) (o := 1) (v := .bool tk) (by repeat (first | exact q1 | refine cell_al ?_)) N4.out; have HJ' := Lib.hid (World.ownsRow.kept (show World.ownsRow _ w.heap.size 4 1 u5 k (YtgjlkplieoajlaaDoorW.PrintWords.encs Value.bool ((xs.take k).map (·.f1))) by repeat (first | exact HJ.out | refine World.ownsRow.alloc ?_ _)) hgrow1 N45.out); have hs1 := hgrow1.size; simp at hs1; have HG1 := Lib.hid hgrow1; have HO1 := Lib.hid hown1; clear hat1 hgrow1 hown1; have r' := Lib.hid (grown_cell HG1.out (b := W0.heap.size + 1) (o := 0) (v := .bool tk) (cell_at (by simp)) (fun e => by have := L4.out _ e.symm; omega))))
      all_goals
        have F1 : Below w.heap.size w w1 := by
          refine YtgjlkplieoajlaaDoorW.PrintWords.pw_below_grown ?_ _ ?_ HG1.out (YtgjlkplieoajlaaDoorW.PrintWords.own_base HI.out)
          · repeat (first | exact HB0.out | refine YtgjlkplieoajlaaDoorW.PrintWords.below_alloc ?_ _ | refine YtgjlkplieoajlaaDoorW.PrintWords.below_drew ?_)
          · first | omega | (simp; omega)
        have F2 : Below w.heap.size w w2 := by
          refine YtgjlkplieoajlaaDoorW.PrintWords.pw_below_grown ?_ _ ?_ HG2.out (YtgjlkplieoajlaaDoorW.PrintWords.own_base HJ.out)
          · repeat (first | exact F1 | refine YtgjlkplieoajlaaDoorW.PrintWords.below_alloc ?_ _)
          · first | omega | (simp; omega)
        have O1 : w2.ownsRow w.heap.size 3 1 (.slice (some ⟨g1, 0, none⟩) (k + 1) cap1) (k + 1) (YtgjlkplieoajlaaDoorW.PrintWords.encs (Value.int .i64) ((xs.take k).map (·.f0)) ++ [.int .i64 gen]) :=
          World.ownsRow.kept (by repeat (first | exact HO1.out | refine World.ownsRow.alloc ?_ _)) HG2.out (own_ne_types HJ'.out HO1.out (by decide))
        have R1 := Lib.hid (show (Kd.int .i64).R 3 w2 w.heap.size (fun _ => True) (.slice (some ⟨g1, 0, none⟩) (k + 1) cap1) ((xs.take (k + 1)).map (·.f0)) from Kd.R_of_own (by rw [M4.out, T4.out]; exact O1) (fun _ _ => trivial))
        have R2 := Lib.hid (show Kd.bool.R 4 w2 w.heap.size (fun _ => True) (.slice (some ⟨g2, 0, none⟩) (k + 1) cap2) ((xs.take (k + 1)).map (·.f1)) from Kd.R_of_own (by rw [M5.out, T5.out]; exact HO2.out) (fun _ _ => trivial))
        have HF := Lib.hid F2
        clear F1 F2 O1
        go_wp2
        go_roundw
        case rel => exact ⟨k + 1, by omega, by go_num, R1, R2, HF⟩
        case measure => simp [intOf]; omega
    · go_wp2
      go_ret2
      have e : k = n := by omega
      subst e
      have r1 := hR.out
      have r2 := hS.out
      rw [List.take_of_length_le (by omega)] at r1 r2
      exact ⟨_, _, rfl, r1, r2, hB.out⟩
end Go.Proofs.YtgjlkplieoajlaaDoor

set_option linter.unusedVariables false
set_option linter.unusedSimpArgs false
namespace Go.Proofs.YtgjlkplieoajlaaDoor
open Go.RowKit
open Go.Proofs.YtgjlkplieoajlaaDoorW.PrintWords (Kd Drawn0 Kept rd rdOf gate_dst)
open Go.Proofs.YtgjlkplieoajlaaDoor.PSlotsTwins
set_option maxRecDepth 100000

def oneSl : Sl := ⟨1, false, 0⟩
def midSl (k n : Nat) : List Sl := (List.range n).map fun i => if i < k then oneSl else z90
theorem midSl_len (k n : Nat) : (midSl k n).length = n := by simp [midSl]
theorem midSl_at {k n : Nat} (h : k < n) : (midSl k n)[k]? = some z90 := by
  unfold midSl
  rw [List.getElem?_map, List.getElem?_range h]
  simp
theorem midSl_set {k n : Nat} (h : k < n) : (midSl k n).set k oneSl = midSl (k + 1) n := by
  apply List.ext_getElem (by simp [midSl])
  intro i h1 h2
  rw [List.getElem_set]
  simp only [midSl, List.getElem_map, List.getElem_range]
  split
  · rename_i e; subst e; rw [if_pos (by omega)]
  · rename_i e
    by_cases hk : i < k
    · rw [if_pos hk, if_pos (by omega)]
    · rw [if_neg hk, if_neg (by omega)]
theorem midSl_end (n : Nat) : midSl n n = List.replicate n oneSl := by
  apply List.ext_getElem (by simp [midSl])
  intro i h1 h2
  have : i < n := by simpa [midSl] using h1
  simp [midSl, this]
theorem midSl_start (n : Nat) : midSl 0 n = List.replicate n z90 := by
  apply List.ext_getElem (by simp [midSl])
  intro i h1 h2
  simp [midSl]

theorem infoSl : (Tryd.prog.info? 90).map (fun i => (i.zero, i.size, i.bytes)) = some (some (.agg #[.int .i64 0, .bool false, .int .i64 0]), 3, 24) := by kernel_rfl

theorem Tk.one {kind : Int} {n : Nat} (k0 : 1 ≤ kind) (k3 : kind ≤ 3) (n0 : 1 ≤ n) (n1 : n ≤ 4096) : Tk kind n (List.replicate n oneSl) := by
  refine ⟨k0, k3, n0, n1, by simp, ?_, ?_, ?_⟩
  · intro i x hx
    obtain ⟨h, e⟩ := List.getElem?_eq_some_iff.1 hx
    rw [List.getElem_replicate] at e
    subst e
    exact ⟨by decide, by decide⟩
  · intro i x hx hf
    obtain ⟨h, e⟩ := List.getElem?_eq_some_iff.1 hx
    rw [List.getElem_replicate] at e
    subst e
    simp [oneSl] at hf
  · intro i x hx hf
    obtain ⟨h, e⟩ := List.getElem?_eq_some_iff.1 hx
    rw [List.getElem_replicate] at e
    subst e
    rfl

theorem TB.ofR {w : World} {t b n : Nat} {kind : Int} {v : Value} {xs : List Sl} {ok : Nat → Prop} (hb : w.heap[t]? = some (.cells #[.int .i64 kind, v] 88 (0, 0))) (hr : kSl.R 90 w b ok v xs) (hn : 0 < n) (hl : xs.length = n) (hbt : t < b ∨ ∀ k, v.ownBlock = some k → k ≠ t) : ∃ g cap, v = .slice (some ⟨g, 0, none⟩) n cap ∧ b ≤ g ∧ TB w t g n cap kind xs := by
  obtain ⟨g, cap, hv, hg, hlt, cells, hc⟩ := Kd.R_form hr (by omega)
  subst hv
  rw [hl] at hb hr ⊢
  refine ⟨g, cap, rfl, hg, hb, ⟨fun k hk => ?_, ?_⟩, ?_⟩
  · have : g = k := by simpa [Value.ownBlock] using hk
    exact this.symm
  · obtain ⟨h1, h2⟩ := Kd.R_lower hr (Nat.zero_le b)
    exact h2.imp_ (fun x cs hp => by
      have e := k90_openM hp
      subst e
      exact k90_mkM _ _ _ _)
  · rcases hbt with h | h
    · omega
    · exact h g rfl

theorem snew_bad (kind many : Int) (w : World) (h : ¬ (1 ≤ kind ∧ kind ≤ 3 ∧ 1 ≤ many ∧ many ≤ 4096)) :
    Calls Tryd.prog 9 #[.int .i64 kind, .int .i64 many] w fun e w' => e = .returned (.tuple #[.pointer none, .iface 85 (.int .i64 1)]) ∧ ∃ m, w' = w.drewN m := by
  by_cases h1 : kind < 1
  · have t1 : decide (kind < 1) = true := decide_eq_true h1
    clear h h1
    go_enter Tryd.func9, Tryd.ntmps9
    go_wp2
    go_ret2
    exact ⟨rfl, 0, rfl⟩
  · have t1 : decide (kind < 1) = false := decide_eq_false h1
    by_cases h2 : 3 < kind
    · have t2 : decide (3 < kind) = true := decide_eq_true h2
      clear h h1 h2
      go_enter Tryd.func9, Tryd.ntmps9
      go_wp2
      go_ret2
      exact ⟨rfl, 0, rfl⟩
    · have t2 : decide (3 < kind) = false := decide_eq_false h2
      by_cases h3 : many < 1
      · have t3 : decide (many < 1) = true := decide_eq_true h3
        clear h h1 h2 h3
        go_enter Tryd.func9, Tryd.ntmps9
        go_wp2
        go_ret2
        exact ⟨rfl, 0, rfl⟩
      · have t3 : decide (many < 1) = false := decide_eq_false h3
        have t4 : decide (4096 < many) = true := decide_eq_true (by omega)
        clear h h1 h2 h3
        go_enter Tryd.func9, Tryd.ntmps9
        go_wp2
        go_ret2
        exact ⟨rfl, 0, rfl⟩

theorem snew_ok (kind : Int) (n : Nat) (w : World) (k0 : 1 ≤ kind) (k3 : kind ≤ 3) (n0 : 1 ≤ n) (n1 : n ≤ 4096) :
    Calls Tryd.prog 9 #[.int .i64 kind, .int .i64 (n : Int)] w fun e w' => ∃ t g cap, e = .returned (.tuple #[.pointer (some ⟨t, 0, none⟩), .nilIface]) ∧ TB w' t g n cap kind (List.replicate n oneSl) ∧ w.heap.size ≤ t ∧ w.heap.size ≤ g ∧ Below w.heap.size w w' := by
  have t1 : decide (kind < 1) = false := decide_eq_false (by omega)
  have t2 : decide (3 < kind) = false := decide_eq_false (by omega)
  have t3 : decide ((n : Int) < 1) = false := decide_eq_false (by omega)
  have t4 : decide ((4096 : Int) < n) = false := decide_eq_false (by omega)
  have t3' : decide (n < 1) = false := decide_eq_false (by omega)
  have t4' : decide (4096 < n) = false := decide_eq_false (by omega)
  go_enter Tryd.func9, Tryd.ntmps9
  go_wp2_with (first | ((with_reducible refine gate_dst (N := 25) rfl ?_); refine Kd.R_make kSl w.heap.size 90 rfl (N := 25) rfl 86 (.tmp 24) (.tmp 24) rfl (n : Int) rfl rfl Tryd.underlying86 _ 24 infoSl rfl (by decide) (by omega) z90 (ok := fun _ => True) (okp := fun _ => True) (k90_mkM _ _ _ _) (fun _ hk => hk) trivial (by omega) (by simp; omega) (Below.refl _ _) (Nat.le_refl _) ?_; intro v1 w1 hr hb hgr hnn; obtain ⟨g, cap, e1, hgb, hlt, cells, hc⟩ := Kd.R_form hr (by simp; omega); rw [show (List.replicate (n : Int).toNat z90).length = n by simp] at e1; subst e1; have HR := Lib.hid hr; have HB := Lib.hid hb; clear hgr hnn hc hr hb cells) | fail)
  have HB2 := Lib.hid (below_alloc HB.out (Nat.le_refl _) (.cells #[.int .i64 kind, .slice (some ⟨g, 0, none⟩) n cap] 88))
  have HT : Hid (TB (w1.alloc (.cells #[.int .i64 kind, .slice (some ⟨g, 0, none⟩) n cap] 88)) w1.heap.size g n cap kind (midSl 0 n)) := by
    have hr2 := Kd.R_alloc HR.out (.cells #[.int .i64 kind, .slice (some ⟨g, 0, none⟩) n cap] 88)
    rw [midSl_start]
    obtain ⟨g', cap', e, _, h⟩ := TB.ofR (n := n) (kind := kind) (t := w1.heap.size) (by simpa using heap_alloc_new w1 _) hr2 (by omega) (by simp) (.inr (fun k hk => by simp [Value.ownBlock] at hk; omega))
    simp only [Value.slice.injEq, Option.some.injEq, Addr.mk.injEq] at e
    obtain ⟨⟨rfl, -, -⟩, -, rfl⟩ := e
    exact Lib.hid (by simpa using h)
  have hwt := HB.out.size
  generalize w1.alloc (.cells #[.int .i64 kind, .slice (some ⟨g, 0, none⟩) n cap] 88) = W2 at HB2 HT ⊢
  generalize w1.heap.size = t at hlt hwt HT ⊢
  clear HR HB
  go_loopw [33] (fun i wr => ∃ k : Nat, k ≤ n ∧ i = .int .i64 k ∧ Hid (TB wr t g n cap kind (midSl k n)) ∧ Hid (Below w.heap.size w wr)) (fun i _ => n - (intOf i).toNat)
  case atStart => exact ⟨0, Nat.zero_le _, rfl, HT, HB2⟩
  case round =>
    obtain ⟨k, hk, rfl, hT, hB⟩ := hrel
    clear HT HB2
    by_cases hlt : k < n
    · have c1 := hT.out.c1
      have e0 := hT.out.e0 (midSl_at hlt)
      have f0 := hT.out.f0 (midSl_at hlt)
      have HS := Lib.hid (hT.out.set (midSl_at hlt) 0 (.int .i64 1) oneSl (by omega) rfl)
      rw [midSl_set hlt] at HS
      have HBS := Lib.hid (hB.out.setCell (p := ⟨g, k * 3 + 0, none⟩) hgb (.int .i64 1))
      clear hT hB
      go_wp2
      go_roundw
      case rel => exact ⟨k + 1, by omega, by go_num, HS, HBS⟩
      case measure => simp [intOf]; omega
    · obtain rfl : k = n := by omega
      go_wp2
      go_ret2
      rw [midSl_end] at hT
      exact ⟨t, g, cap, rfl, hT.out, hwt, hgb, hB.out⟩

end Go.Proofs.YtgjlkplieoajlaaDoor

set_option linter.unusedVariables false
set_option linter.unusedSimpArgs false
namespace Go.Proofs.YtgjlkplieoajlaaDoor
open Go.RowKit
open Go.Proofs.YtgjlkplieoajlaaDoorW.PrintWords (Kd Drawn0 Kept rd rdOf)
open Go.Proofs.YtgjlkplieoajlaaDoor.PSlotsTwins

abbrev gens (xs : List Sl) : List Int := xs.map (·.f0)
abbrev tks (xs : List Sl) : List Bool := xs.map (·.f1)
abbrev ths (xs : List Sl) : List Int := xs.map (·.f2)

theorem rd_gens {xs : List Sl} {i : Nat} {x : Sl} (h : xs[i]? = some x) : rd (gens xs) (i : Int) = x.f0 := by
  unfold rd; simp [h]
theorem rd_tks {xs : List Sl} {i : Nat} {x : Sl} (h : xs[i]? = some x) : rdOf false (tks xs) (i : Int) = x.f1 := by
  unfold rdOf; simp [h]
theorem rd_ths {xs : List Sl} {i : Nat} {x : Sl} (h : xs[i]? = some x) : rd (ths xs) (i : Int) = x.f2 := by
  unfold rd; simp [h]
theorem wrap_nat {k : Nat} (h : k < 4097) : wrap64 ((k : Int) + 1) = ((k + 1 : Nat) : Int) := by unfold wrap64; omega

theorem rmake_f {kind : Int} {n : Nat} {xs : List Sl} (hT : Tk kind n xs) {i : Nat} {x : Sl} (hx : xs[i]? = some x) : titheref03_Make.f kind (i : Int) x.f0 = some (mk kind i x.f0) := by
  have h1 := (List.getElem?_eq_some_iff.1 hx).1
  have h2 := hT.len
  have h3 := hT.n1
  have h4 := hT.gen i x hx
  unfold titheref03_Make.f
  rw [or_mk kind i x.f0 hT.k0 hT.k3 (by omega) (by omega) (by omega) (by omega)]

theorem rfree_hit {kind : Int} {n : Nat} {xs : List Sl} (hT : Tk kind n xs) {i : Nat} {x : Sl} (hx : xs[i]? = some x) (hf : FreeSl x) (ha : ∀ (j : Nat) (y : Sl), j < i → xs[j]? = some y → ¬ FreeSl y) :
    ∀ (d k j : Nat), j + d = i → d < k → titheref03_Free.l0 k (j : Int) kind (gens xs) (tks xs) (ths xs) = some (i : Int) := by
  have hn := hT.len
  have hm := hT.n1
  have hi := (List.getElem?_eq_some_iff.1 hx).1
  intro d
  induction d with
  | zero =>
    intro k j hj hk
    obtain ⟨k, rfl⟩ : ∃ m, k = m + 1 := ⟨k - 1, by omega⟩
    obtain rfl : j = i := by omega
    simp only [titheref03_Free.l0]
    rw [if_pos (by simp; omega), if_pos (by omega), if_pos (by simp; omega), rd_tks hx, if_neg (by rw [hf.1]; decide), rd_gens hx, if_pos hf.2]
  | succ d ih =>
    intro k j hj hk
    obtain ⟨k, rfl⟩ : ∃ m, k = m + 1 := ⟨k - 1, by omega⟩
    obtain ⟨y, hy⟩ : ∃ y, xs[j]? = some y := ⟨xs[j], List.getElem?_eq_getElem (by omega)⟩
    have hno := ha j y (by omega) hy
    have := ih k (j + 1) (by omega) (by omega)
    simp only [titheref03_Free.l0]
    rw [if_pos (by simp; omega), if_pos (by omega), if_pos (by simp; omega), rd_tks hy, rd_gens hy, wrap_nat (by omega)]
    split
    · exact this
    · rename_i e
      rw [if_neg (fun h => hno ⟨by simpa using e, h⟩)]
      exact this

theorem rfree_none {kind : Int} {n : Nat} {xs : List Sl} (hT : Tk kind n xs) (ha : ∀ (j : Nat) (y : Sl), xs[j]? = some y → ¬ FreeSl y) :
    ∀ (d k j : Nat), j + d = n → d < k → titheref03_Free.l0 k (j : Int) kind (gens xs) (tks xs) (ths xs) = some (-1) := by
  have hn := hT.len
  have hm := hT.n1
  intro d
  induction d with
  | zero =>
    intro k j hj hk
    obtain ⟨k, rfl⟩ : ∃ m, k = m + 1 := ⟨k - 1, by omega⟩
    simp only [titheref03_Free.l0]
    rw [if_neg (by simp; omega)]
  | succ d ih =>
    intro k j hj hk
    obtain ⟨k, rfl⟩ : ∃ m, k = m + 1 := ⟨k - 1, by omega⟩
    obtain ⟨y, hy⟩ : ∃ y, xs[j]? = some y := ⟨xs[j], List.getElem?_eq_getElem (by omega)⟩
    have hno := ha j y hy
    have := ih k (j + 1) (by omega) (by omega)
    simp only [titheref03_Free.l0]
    rw [if_pos (by simp; omega), if_pos (by omega), if_pos (by simp; omega), rd_tks hy, rd_gens hy, wrap_nat (by omega)]
    split
    · exact this
    · rename_i e
      rw [if_neg (fun h => hno ⟨by simpa using e, h⟩)]
      exact this

theorem at_unique {kind h : Int} {n : Nat} {xs : List Sl} (hT : Tk kind n xs) {i j : Nat} {x y : Sl} (h1 : At kind h xs i x) (h2 : At kind h xs j y) : i = j := by
  have hn := hT.len
  have hm := hT.n1
  have a1 := (List.getElem?_eq_some_iff.1 h1.1).1
  have a2 := (List.getElem?_eq_some_iff.1 h2.1).1
  have b1 := hT.gen i x h1.1
  have b2 := hT.gen j y h2.1
  have c := h1.2.2.trans h2.2.2.symm
  unfold mk at c
  omega

theorem rfind_hit {kind h : Int} {n : Nat} {xs : List Sl} (hT : Tk kind n xs) {i : Nat} {x : Sl} (hx : At kind h xs i x) :
    ∀ (d k j : Nat), j + d = i → d < k → titheref03_Find.l0 k h (j : Int) kind (gens xs) (tks xs) (ths xs) = some (i : Int) := by
  have hn := hT.len
  have hm := hT.n1
  have hi := (List.getElem?_eq_some_iff.1 hx.1).1
  intro d
  induction d with
  | zero =>
    intro k j hj hk
    obtain ⟨k, rfl⟩ : ∃ m, k = m + 1 := ⟨k - 1, by omega⟩
    obtain rfl : j = i := by omega
    simp only [titheref03_Find.l0]
    rw [if_pos (by simp; omega), if_pos (by omega), if_pos (by simp; omega), rd_tks hx.1, if_pos hx.2.1, rd_gens hx.1, rmake_f hT hx.1]
    simp only [Option.bind_some]
    rw [if_pos hx.2.2]
  | succ d ih =>
    intro k j hj hk
    obtain ⟨k, rfl⟩ : ∃ m, k = m + 1 := ⟨k - 1, by omega⟩
    obtain ⟨y, hy⟩ : ∃ y, xs[j]? = some y := ⟨xs[j], List.getElem?_eq_getElem (by omega)⟩
    have := ih k (j + 1) (by omega) (by omega)
    simp only [titheref03_Find.l0]
    rw [if_pos (by simp; omega), if_pos (by omega), if_pos (by simp; omega), rd_tks hy, rd_gens hy, wrap_nat (by omega), rmake_f hT hy]
    simp only [Option.bind_some]
    split
    · rename_i e
      rw [if_neg (fun c => by have := at_unique hT hx ⟨hy, e, c⟩; omega)]
      exact this
    · exact this

theorem rfind_none {kind h : Int} {n : Nat} {xs : List Sl} (hT : Tk kind n xs) (ha : NoAt kind h xs) :
    ∀ (d k j : Nat), j + d = n → d < k → titheref03_Find.l0 k h (j : Int) kind (gens xs) (tks xs) (ths xs) = some (-1) := by
  have hn := hT.len
  have hm := hT.n1
  intro d
  induction d with
  | zero =>
    intro k j hj hk
    obtain ⟨k, rfl⟩ : ∃ m, k = m + 1 := ⟨k - 1, by omega⟩
    simp only [titheref03_Find.l0]
    rw [if_neg (by simp; omega)]
  | succ d ih =>
    intro k j hj hk
    obtain ⟨k, rfl⟩ : ∃ m, k = m + 1 := ⟨k - 1, by omega⟩
    obtain ⟨y, hy⟩ : ∃ y, xs[j]? = some y := ⟨xs[j], List.getElem?_eq_getElem (by omega)⟩
    have := ih k (j + 1) (by omega) (by omega)
    simp only [titheref03_Find.l0]
    rw [if_pos (by simp; omega), if_pos (by omega), if_pos (by simp; omega), rd_tks hy, rd_gens hy, wrap_nat (by omega), rmake_f hT hy]
    simp only [Option.bind_some]
    split
    · rename_i e
      rw [if_neg (fun c => ha j y ⟨hy, e, c⟩)]
      exact this
    · exact this

theorem rall_f {kind : Int} {n : Nat} {xs : List Sl} (hT : Tk kind n xs) :
    ∀ (d k j : Nat), j + d = n → d < k → titheref03_All.l0 k (allH kind (xs.take j)) (j : Int) kind (gens xs) (tks xs) (ths xs) = some (allH kind xs) := by
  have hn := hT.len
  have hm := hT.n1
  intro d
  induction d with
  | zero =>
    intro k j hj hk
    obtain ⟨k, rfl⟩ : ∃ m, k = m + 1 := ⟨k - 1, by omega⟩
    simp only [titheref03_All.l0]
    rw [if_neg (by simp; omega), List.take_of_length_le (by omega)]
  | succ d ih =>
    intro k j hj hk
    obtain ⟨k, rfl⟩ : ∃ m, k = m + 1 := ⟨k - 1, by omega⟩
    obtain ⟨y, hy⟩ : ∃ y, xs[j]? = some y := ⟨xs[j], List.getElem?_eq_getElem (by omega)⟩
    have := ih k (j + 1) (by omega) (by omega)
    rw [all_take kind xs j y hy] at this
    have hle : (allH kind (xs.take j)).length ≤ 4096 := by
      have := allF_le kind (xs.take j) 0
      unfold allH
      simp only [List.length_take] at this
      omega
    simp only [titheref03_All.l0]
    rw [if_pos (by simp; omega), if_pos (by omega), if_pos (by simp; omega), rd_tks hy, rd_gens hy, wrap_nat (by omega), rmake_f hT hy]
    simp only [Option.bind_some]
    split
    · rename_i e
      rw [if_pos (by omega)]
      rw [if_pos e] at this
      exact this
    · rename_i e
      rw [if_neg e, List.append_nil] at this
      exact this

theorem rcopy_f {kind : Int} {n : Nat} {xs : List Sl} (hT : Tk kind n xs) : titheref03_Copy.f kind (gens xs) (tks xs) (ths xs) = some (kind, gens xs, tks xs, ths xs) := by
  have hn := hT.len
  have hm := hT.n1
  unfold titheref03_Copy.f
  rw [if_pos (by simp; omega), if_pos (by simp; omega), if_pos (by simp; omega)]
  simp

theorem gens_set (xs : List Sl) (i : Nat) (x : Sl) : gens (xs.set i x) = (gens xs).set i x.f0 := by simp [gens, List.map_set]
theorem tks_set (xs : List Sl) (i : Nat) (x : Sl) : tks (xs.set i x) = (tks xs).set i x.f1 := by simp [tks, List.map_set]
theorem ths_set (xs : List Sl) (i : Nat) (x : Sl) : ths (xs.set i x) = (ths xs).set i x.f2 := by simp [ths, List.map_set]
theorem set_self {α : Type} {xs : List α} {i : Nat} {x : α} (h : xs[i]? = some x) : xs.set i x = xs := by
  obtain ⟨hi, e⟩ := List.getElem?_eq_some_iff.1 h
  rw [← e]; simp
theorem gens_keep {xs : List Sl} {i : Nat} {x : Sl} (h : xs[i]? = some x) (y : Sl) (e : y.f0 = x.f0) : gens (xs.set i y) = gens xs := by
  rw [gens_set, e, set_self]; simp [h]
theorem tks_keep {xs : List Sl} {i : Nat} {x : Sl} (h : xs[i]? = some x) (y : Sl) (e : y.f1 = x.f1) : tks (xs.set i y) = tks xs := by
  rw [tks_set, e, set_self]; simp [h]

theorem radd_hit {kind v : Int} {n : Nat} {xs : List Sl} (hT : Tk kind n xs) {i : Nat} {x : Sl} (hx : xs[i]? = some x) (hf : FreeSl x) (ha : ∀ (j : Nat) (y : Sl), j < i → xs[j]? = some y → ¬ FreeSl y) :
    titheref03_Add.f 5000 kind (gens xs) (tks xs) (ths xs) v = some (kind, gens (xs.set i ⟨x.f0, true, v⟩), tks (xs.set i ⟨x.f0, true, v⟩), ths (xs.set i ⟨x.f0, true, v⟩), mk kind i x.f0, 0) := by
  have hn := hT.len
  have hm := hT.n1
  have hi := (List.getElem?_eq_some_iff.1 hx).1
  unfold titheref03_Add.f titheref03_Free.f
  rw [show (0 : Int) = ((0 : Nat) : Int) from rfl, rfree_hit hT hx hf ha i 5000 0 (by omega) (by omega)]
  simp only [Option.bind_some]
  rw [if_neg (by omega), rcopy_f hT]
  simp only [Option.bind_some]
  rw [if_pos (by omega), if_pos (by simp; omega), if_pos (by simp; omega), if_pos (by simp; omega), rd_gens hx, rmake_f hT hx]
  simp only [Option.bind_some]
  rw [gens_keep hx ⟨x.f0, true, v⟩ rfl, tks_set, ths_set]
  rfl

theorem radd_none {kind v : Int} {n : Nat} {xs : List Sl} (hT : Tk kind n xs) (ha : ∀ (j : Nat) (y : Sl), xs[j]? = some y → ¬ FreeSl y) :
    titheref03_Add.f 5000 kind (gens xs) (tks xs) (ths xs) v = some (kind, gens xs, tks xs, ths xs, 0, 30) := by
  have hm := hT.n1
  unfold titheref03_Add.f titheref03_Free.f
  rw [show (0 : Int) = ((0 : Nat) : Int) from rfl, rfree_none hT ha n 5000 0 (by omega) (by omega)]
  simp only [Option.bind_some]
  rw [if_pos (by omega)]

theorem rget_hit {kind h : Int} {n : Nat} {xs : List Sl} (hT : Tk kind n xs) {i : Nat} {x : Sl} (ha : At kind h xs i x) : titheref03_Get.f 5000 kind (gens xs) (tks xs) (ths xs) h = some (x.f2, 0) := by
  have hn := hT.len
  have hm := hT.n1
  have hi := (List.getElem?_eq_some_iff.1 ha.1).1
  unfold titheref03_Get.f titheref03_Find.f
  rw [show (0 : Int) = ((0 : Nat) : Int) from rfl, rfind_hit hT ha i 5000 0 (by omega) (by omega)]
  simp only [Option.bind_some]
  rw [if_neg (by omega), if_pos (by omega), if_pos (by simp; omega), rd_ths ha.1]

theorem rget_none {kind h : Int} {n : Nat} {xs : List Sl} (hT : Tk kind n xs) (ha : NoAt kind h xs) : titheref03_Get.f 5000 kind (gens xs) (tks xs) (ths xs) h = some (0, 20) := by
  have hm := hT.n1
  unfold titheref03_Get.f titheref03_Find.f
  rw [show (0 : Int) = ((0 : Nat) : Int) from rfl, rfind_none hT ha n 5000 0 (by omega) (by omega)]
  simp only [Option.bind_some]
  rw [if_pos (by omega)]

theorem rset_hit {kind h v : Int} {n : Nat} {xs : List Sl} (hT : Tk kind n xs) {i : Nat} {x : Sl} (ha : At kind h xs i x) :
    titheref03_Set.f 5000 kind (gens xs) (tks xs) (ths xs) h v = some (kind, gens (xs.set i ⟨x.f0, x.f1, v⟩), tks (xs.set i ⟨x.f0, x.f1, v⟩), ths (xs.set i ⟨x.f0, x.f1, v⟩), 0) := by
  have hn := hT.len
  have hm := hT.n1
  have hi := (List.getElem?_eq_some_iff.1 ha.1).1
  unfold titheref03_Set.f titheref03_Find.f
  rw [show (0 : Int) = ((0 : Nat) : Int) from rfl, rfind_hit hT ha i 5000 0 (by omega) (by omega)]
  simp only [Option.bind_some]
  rw [if_neg (by omega), rcopy_f hT]
  simp only [Option.bind_some]
  rw [if_pos (by omega), if_pos (by simp; omega), gens_keep ha.1 ⟨x.f0, x.f1, v⟩ rfl, tks_keep ha.1 ⟨x.f0, x.f1, v⟩ rfl, ths_set]
  rfl

theorem rset_none {kind h v : Int} {n : Nat} {xs : List Sl} (hT : Tk kind n xs) (ha : NoAt kind h xs) : titheref03_Set.f 5000 kind (gens xs) (tks xs) (ths xs) h v = some (kind, gens xs, tks xs, ths xs, 20) := by
  have hm := hT.n1
  unfold titheref03_Set.f titheref03_Find.f
  rw [show (0 : Int) = ((0 : Nat) : Int) from rfl, rfind_none hT ha n 5000 0 (by omega) (by omega)]
  simp only [Option.bind_some]
  rw [if_pos (by omega)]

theorem rdrop_hit {kind h : Int} {n : Nat} {xs : List Sl} (hT : Tk kind n xs) {i : Nat} {x : Sl} (ha : At kind h xs i x) :
    titheref03_Drop.f 5000 kind (gens xs) (tks xs) (ths xs) h = some (kind, gens (xs.set i ⟨x.f0 + 1, false, 0⟩), tks (xs.set i ⟨x.f0 + 1, false, 0⟩), ths (xs.set i ⟨x.f0 + 1, false, 0⟩), 0) := by
  have hn := hT.len
  have hm := hT.n1
  have hi := (List.getElem?_eq_some_iff.1 ha.1).1
  have hg := hT.gen i x ha.1
  unfold titheref03_Drop.f titheref03_Find.f
  rw [show (0 : Int) = ((0 : Nat) : Int) from rfl, rfind_hit hT ha i 5000 0 (by omega) (by omega)]
  simp only [Option.bind_some]
  rw [if_neg (by omega), rcopy_f hT]
  simp only [Option.bind_some]
  rw [if_pos (by omega), if_pos (by simp; omega), if_pos (by simp; omega), if_pos (by simp; omega), gens_set, tks_set, ths_set, rd_gens ha.1, show wrap64 (x.f0 + 1) = x.f0 + 1 by unfold wrap64; omega]
  rfl

theorem rdrop_none {kind h : Int} {n : Nat} {xs : List Sl} (hT : Tk kind n xs) (ha : NoAt kind h xs) : titheref03_Drop.f 5000 kind (gens xs) (tks xs) (ths xs) h = some (kind, gens xs, tks xs, ths xs, 20) := by
  have hm := hT.n1
  unfold titheref03_Drop.f titheref03_Find.f
  rw [show (0 : Int) = ((0 : Nat) : Int) from rfl, rfind_none hT ha n 5000 0 (by omega) (by omega)]
  simp only [Option.bind_some]
  rw [if_pos (by omega)]

theorem rnew_l (kind : Int) (n : Nat) (hn : n ≤ 4096) (A : List Bool) (L : List Int) : ∀ (d k j : Nat), j + d = n → d < k → titheref03_New.l0 k (n : Int) (j : Int) kind (List.replicate j 1) A L = some (kind, List.replicate n 1, A, L, 0) := by
  intro d
  induction d with
  | zero =>
    intro k j hj hk
    obtain ⟨k, rfl⟩ : ∃ m, k = m + 1 := ⟨k - 1, by omega⟩
    obtain rfl : j = n := by omega
    simp only [titheref03_New.l0]
    rw [if_neg (by omega)]
  | succ d ih =>
    intro k j hj hk
    obtain ⟨k, rfl⟩ : ∃ m, k = m + 1 := ⟨k - 1, by omega⟩
    simp only [titheref03_New.l0]
    rw [if_pos (by omega), if_pos (by simp; omega), wrap_nat (by omega)]
    have := ih k (j + 1) (by omega) (by omega)
    rw [List.replicate_succ'] at this
    exact this

theorem rnew_ok {kind : Int} {n : Nat} (k0 : 1 ≤ kind) (k3 : kind ≤ 3) (n0 : 1 ≤ n) (n1 : n ≤ 4096) :
    titheref03_New.f 5000 kind (n : Int) = some (kind, gens (List.replicate n oneSl), tks (List.replicate n oneSl), ths (List.replicate n oneSl), 0) := by
  unfold titheref03_New.f titheref03_Kind.f
  rw [if_pos (by omega)]
  simp only [Option.bind_some]
  rw [if_pos (by simp; omega), if_neg (by omega)]
  simp only [titheref03_New.j0]
  rw [if_neg (by simp; omega), if_pos (by omega), if_pos (by omega), if_pos (by omega)]
  have := rnew_l kind n n1 (List.replicate n false) (List.replicate n 0) n 4999 0 (by omega) (by omega)
  simp only [List.map_replicate, oneSl, Int.toNat_natCast]
  exact this

theorem rnew_bad {kind many : Int} (h : ¬ (1 ≤ kind ∧ kind ≤ 3 ∧ 1 ≤ many ∧ many ≤ 4096)) : titheref03_New.f 5000 kind many = some (0, [], [], [], 1) := by
  unfold titheref03_New.f titheref03_Kind.f
  have j1 : titheref03_New.j0 5000 kind many true = some (0, [], [], [], 1) := by simp only [titheref03_New.j0]; rfl
  by_cases c1 : kind ≥ 1
  · rw [if_pos c1]
    simp only [Option.bind_some]
    by_cases c2 : kind ≤ 3
    · rw [if_pos (by simpa using c2)]
      by_cases c3 : many < 1
      · rw [if_pos c3]; exact j1
      · rw [if_neg c3, show decide (many > 4096) = true from decide_eq_true (by omega)]; exact j1
    · rw [if_neg (by simpa using c2)]; exact j1
  · rw [if_neg c1]
    simp only [Option.bind_some]
    rw [if_neg (by decide)]
    exact j1

end Go.Proofs.YtgjlkplieoajlaaDoor

set_option linter.unusedVariables false
set_option linter.unusedSimpArgs false
namespace Go.Proofs.YtgjlkplieoajlaaDoor
open Go.RowKit
open Go.Proofs.YtgjlkplieoajlaaDoorW.PrintWords (Kd Drawn0 Kept rd rdOf)
open Go.Proofs.YtgjlkplieoajlaaDoor.PSlotsTwins
set_option maxRecDepth 100000

/-- The world's elder part alone. -/
def cutW (w : World) (B : Nat) : World := { w with heap := w.heap.extract 0 B }
theorem cutW_size {w : World} {B : Nat} (h : B ≤ w.heap.size) : (cutW w B).heap.size = B := by
  unfold cutW; simp; omega
theorem cutW_below {w : World} {B : Nat} (h : B ≤ w.heap.size) : Below (cutW w B).heap.size (cutW w B) w := by
  have hs := cutW_size h
  refine ⟨rfl, rfl, rfl, by omega, fun k hk => ?_⟩
  have hk' : k < B := by omega
  show w.heap[k]? = (w.heap.extract 0 B)[k]?
  rw [Array.getElem?_extract]
  simp [hk']; omega

/-- The reference's table: its three rows. -/
structure RT (w : World) (B n : Nat) (A1 : Option Addr) (c1 : Nat) (A2 : Option Addr) (c2 : Nat) (A3 : Option Addr) (c3 : Nat) (xs : List Sl) : Prop where
  sz : B ≤ w.heap.size
  len : xs.length = n
  r1 : (Kd.int .i64).R 3 w B (fun k => (Value.slice A1 n c1).ownBlock = some k) (.slice A1 n c1) (gens xs)
  r2 : Kd.bool.R 4 w B (fun k => (Value.slice A2 n c2).ownBlock = some k) (.slice A2 n c2) (tks xs)
  r3 : (Kd.int .i64).R 3 w B (fun k => (Value.slice A3 n c3).ownBlock = some k) (.slice A3 n c3) (ths xs)
  ne : ∀ k, (Value.slice A1 n c1).ownBlock = some k → ¬ (Value.slice A3 n c3).ownBlock = some k

/-- The blocks of the three rows. -/
def Own3 (n : Nat) (A1 : Option Addr) (c1 : Nat) (A2 : Option Addr) (c2 : Nat) (A3 : Option Addr) (c3 : Nat) (k : Nat) : Prop :=
  (Value.slice A1 n c1).ownBlock = some k ∨ (Value.slice A2 n c2).ownBlock = some k ∨ (Value.slice A3 n c3).ownBlock = some k

section
variable {w w' : World} {B n : Nat} {A1 : Option Addr} {c1 : Nat} {A2 : Option Addr} {c2 : Nat} {A3 : Option Addr} {c3 : Nat} {xs : List Sl}
theorem RT.chg (h : RT w B n A1 c1 A2 c2 A3 c3 xs) {S : Nat → Prop} (hc : Chg S w w') (hS : ∀ k, S k → ¬ Own3 n A1 c1 A2 c2 A3 c3 k) : RT w' B n A1 c1 A2 c2 A3 c3 xs :=
  ⟨Nat.le_trans h.sz hc.size, h.len,
    Kd.R_step h.r1 (fun k hk hlt => hc.block k hlt (fun hs => hS k hs (.inl hk))),
    Kd.R_step h.r2 (fun k hk hlt => hc.block k hlt (fun hs => hS k hs (.inr (.inl hk)))),
    Kd.R_step h.r3 (fun k hk hlt => hc.block k hlt (fun hs => hS k hs (.inr (.inr hk)))), h.ne⟩
theorem RT.below (h : RT w B n A1 c1 A2 c2 A3 c3 xs) (hb : Below w.heap.size w w') : RT w' B n A1 c1 A2 c2 A3 c3 xs :=
  h.chg (Chg.ofBelow hb (fun _ => False)) (fun _ f => f.elim)
theorem RT.base (h : RT w B n A1 c1 A2 c2 A3 c3 xs) {k : Nat} (hk : Own3 n A1 c1 A2 c2 A3 c3 k) : B ≤ k ∧ k < w.heap.size := by
  rcases hk with e | e | e
  · exact ⟨Kd.R_base h.r1 k e, Kd.R_lt h.r1 k e⟩
  · exact ⟨Kd.R_base h.r2 k e, Kd.R_lt h.r2 k e⟩
  · exact ⟨Kd.R_base h.r3 k e, Kd.R_lt h.r3 k e⟩
theorem RT.lower (h : RT w B n A1 c1 A2 c2 A3 c3 xs) {B' : Nat} (hb : B' ≤ B) : RT w B' n A1 c1 A2 c2 A3 c3 xs :=
  ⟨Nat.le_trans hb h.sz, h.len, Kd.R_lower h.r1 hb, Kd.R_lower h.r2 hb, Kd.R_lower h.r3 hb, h.ne⟩
end

theorem chg_of_kept {w0 w w' : World} {B : Nat} {S : Nat → Prop} (hb : Below B w0 w) (hb' : Below B w0 w') (hk : Kept w w' S) : Chg S w w' :=
  ⟨hb'.os.trans hb.os.symm, hb'.tape.trans hb.tape.symm, hb'.output.trans hb.output.symm, hk.1, hk.2⟩

/-- Out of what the printed contracts tell. -/
theorem RT.of {w : World} {B n : Nat} {v1 v2 v3 : Value} {xs : List Sl} {p1 p2 p3 : Nat → Prop} (sz : B ≤ w.heap.size) (len : xs.length = n)
    (r1 : (Kd.int .i64).R 3 w B (fun k => p1 k ∧ some k ≠ v3.ownBlock) v1 (gens xs)) (r2 : Kd.bool.R 4 w B p2 v2 (tks xs)) (r3 : (Kd.int .i64).R 3 w B p3 v3 (ths xs)) :
    ∃ A1 c1 A2 c2 A3 c3, v1 = .slice A1 n c1 ∧ v2 = .slice A2 n c2 ∧ v3 = .slice A3 n c3 ∧ RT w B n A1 c1 A2 c2 A3 c3 xs := by
  obtain ⟨A1, c1, e1⟩ := Kd.R_slice r1
  obtain ⟨A2, c2, e2⟩ := Kd.R_slice r2
  obtain ⟨A3, c3, e3⟩ := Kd.R_slice r3
  have l1 : (gens xs).length = n := by simpa using len
  have l2 : (tks xs).length = n := by simpa using len
  have l3 : (ths xs).length = n := by simpa using len
  rw [l1] at e1; rw [l2] at e2; rw [l3] at e3
  subst e1; subst e2; subst e3
  refine ⟨A1, c1, A2, c2, A3, c3, rfl, rfl, rfl, sz, len, Kd.R_of_own (Kd.own_of_R r1) (fun _ h => h), Kd.R_of_own (Kd.own_of_R r2) (fun _ h => h), Kd.R_of_own (Kd.own_of_R r3) (fun _ h => h), ?_⟩
  intro k h1 h3
  exact (r1.1 k h1).2 h3.symm

section
variable {w : World} {B n : Nat} {A1 : Option Addr} {c1 : Nat} {A2 : Option Addr} {c2 : Nat} {A3 : Option Addr} {c3 : Nat} {xs ys : List Sl} {kind : Int}

theorem radd_c (R : RT w B n A1 c1 A2 c2 A3 c3 xs) (v h er : Int) (hy : ys.length = n) (E : titheref03_Add.f 5000 kind (gens xs) (tks xs) (ths xs) v = some (kind, gens ys, tks ys, ths ys, h, er)) :
    Calls Tryd.prog 45 #[.agg #[.int .i64 kind, .slice A1 n c1, .slice A2 n c2, .slice A3 n c3], .int .i64 v] w fun e w' => ∃ B1 d1 B2 d2 B3 d3, e = .returned (.tuple #[.agg #[.int .i64 kind, .slice B1 n d1, .slice B2 n d2, .slice B3 n d3], .int .i64 h, .int .i64 er]) ∧ RT w' B n B1 d1 B2 d2 B3 d3 ys ∧ Chg (Own3 n A1 c1 A2 c2 A3 c3) w w' := by
  have hs := cutW_size R.sz
  refine (titheref03_Add.calls 5000 kind _ (.slice A1 n c1) (gens xs) _ (.slice A2 n c2) (tks xs) _ (.slice A3 n c3) (ths xs) v kind (gens ys) (tks ys) (ths ys) h er (cutW w B) w (cutW_below R.sz) (by rw [hs]; exact R.r1) R.ne (by rw [hs]; exact R.r2) (by rw [hs]; exact R.r3) (fun k h3 h1 => R.ne k h1 h3) E).mono ?_
  rintro e w' ⟨v1, v2, v3, rfl, r1, r2, r3, hb, hk⟩
  rw [hs] at r1 r2 r3
  obtain ⟨B1, d1, B2, d2, B3, d3, rfl, rfl, rfl, hR⟩ := RT.of (Nat.le_trans R.sz hk.1) hy r1 r2 r3
  exact ⟨B1, d1, B2, d2, B3, d3, rfl, hR, chg_of_kept (cutW_below R.sz) hb hk⟩

theorem rset_c (R : RT w B n A1 c1 A2 c2 A3 c3 xs) (h v er : Int) (hy : ys.length = n) (E : titheref03_Set.f 5000 kind (gens xs) (tks xs) (ths xs) h v = some (kind, gens ys, tks ys, ths ys, er)) :
    Calls Tryd.prog 47 #[.agg #[.int .i64 kind, .slice A1 n c1, .slice A2 n c2, .slice A3 n c3], .int .i64 h, .int .i64 v] w fun e w' => ∃ B1 d1 B2 d2 B3 d3, e = .returned (.tuple #[.agg #[.int .i64 kind, .slice B1 n d1, .slice B2 n d2, .slice B3 n d3], .int .i64 er]) ∧ RT w' B n B1 d1 B2 d2 B3 d3 ys ∧ Chg (Own3 n A1 c1 A2 c2 A3 c3) w w' := by
  have hs := cutW_size R.sz
  refine (titheref03_Set.calls 5000 kind _ (.slice A1 n c1) (gens xs) _ (.slice A2 n c2) (tks xs) _ (.slice A3 n c3) (ths xs) h v kind (gens ys) (tks ys) (ths ys) er (cutW w B) w (cutW_below R.sz) (by rw [hs]; exact R.r1) R.ne (by rw [hs]; exact R.r2) (by rw [hs]; exact R.r3) (fun k h3 h1 => R.ne k h1 h3) E).mono ?_
  rintro e w' ⟨v1, v2, v3, rfl, r1, r2, r3, hb, hk⟩
  rw [hs] at r1 r2 r3
  obtain ⟨B1, d1, B2, d2, B3, d3, rfl, rfl, rfl, hR⟩ := RT.of (Nat.le_trans R.sz hk.1) hy r1 r2 r3
  exact ⟨B1, d1, B2, d2, B3, d3, rfl, hR, chg_of_kept (cutW_below R.sz) hb hk⟩

theorem rdrop_c (R : RT w B n A1 c1 A2 c2 A3 c3 xs) (h er : Int) (hy : ys.length = n) (E : titheref03_Drop.f 5000 kind (gens xs) (tks xs) (ths xs) h = some (kind, gens ys, tks ys, ths ys, er)) :
    Calls Tryd.prog 48 #[.agg #[.int .i64 kind, .slice A1 n c1, .slice A2 n c2, .slice A3 n c3], .int .i64 h] w fun e w' => ∃ B1 d1 B2 d2 B3 d3, e = .returned (.tuple #[.agg #[.int .i64 kind, .slice B1 n d1, .slice B2 n d2, .slice B3 n d3], .int .i64 er]) ∧ RT w' B n B1 d1 B2 d2 B3 d3 ys ∧ Chg (Own3 n A1 c1 A2 c2 A3 c3) w w' := by
  have hs := cutW_size R.sz
  refine (titheref03_Drop.calls 5000 kind _ (.slice A1 n c1) (gens xs) _ (.slice A2 n c2) (tks xs) _ (.slice A3 n c3) (ths xs) h kind (gens ys) (tks ys) (ths ys) er (cutW w B) w (cutW_below R.sz) (by rw [hs]; exact R.r1) R.ne (by rw [hs]; exact R.r2) (by rw [hs]; exact R.r3) (fun k h3 h1 => R.ne k h1 h3) E).mono ?_
  rintro e w' ⟨v1, v2, v3, rfl, r1, r2, r3, hb, hk⟩
  rw [hs] at r1 r2 r3
  obtain ⟨B1, d1, B2, d2, B3, d3, rfl, rfl, rfl, hR⟩ := RT.of (Nat.le_trans R.sz hk.1) hy r1 r2 r3
  exact ⟨B1, d1, B2, d2, B3, d3, rfl, hR, chg_of_kept (cutW_below R.sz) hb hk⟩

theorem RT.rc1 (R : RT w B n A1 c1 A2 c2 A3 c3 xs) : (Kd.int .i64).C w A1 n (gens xs) ∧ n ≤ c1 := by
  have h := Kd.R_reads' R.r1
  rw [← h.1] at h
  exact ⟨h.2.2, h.2.1⟩
theorem RT.rc2 (R : RT w B n A1 c1 A2 c2 A3 c3 xs) : Kd.bool.C w A2 n (tks xs) ∧ n ≤ c2 := by
  have h := Kd.R_reads' R.r2
  rw [← h.1] at h
  exact ⟨h.2.2, h.2.1⟩
theorem RT.rc3 (R : RT w B n A1 c1 A2 c2 A3 c3 xs) : (Kd.int .i64).C w A3 n (ths xs) ∧ n ≤ c3 := by
  have h := Kd.R_reads' R.r3
  rw [← h.1] at h
  exact ⟨h.2.2, h.2.1⟩

theorem rget_c (R : RT w B n A1 c1 A2 c2 A3 c3 xs) (h r er : Int) (E : titheref03_Get.f 5000 kind (gens xs) (tks xs) (ths xs) h = some (r, er)) :
    Calls Tryd.prog 46 #[.agg #[.int .i64 kind, .slice A1 n c1, .slice A2 n c2, .slice A3 n c3], .int .i64 h] w fun e w' => e = .returned (.tuple #[.int .i64 r, .int .i64 er]) ∧ Below w.heap.size w w' := by
  have l1 : (gens xs).length = n := by simpa using R.len
  have l2 : (tks xs).length = n := by simpa using R.len
  have l3 : (ths xs).length = n := by simpa using R.len
  have := titheref03_Get.calls 5000 kind A1 c1 (gens xs) A2 c2 (tks xs) A3 c3 (ths xs) h r er w (by rw [l1]; exact R.rc1.1) (by rw [l1]; exact R.rc1.2) (by rw [l2]; exact R.rc2.1) (by rw [l2]; exact R.rc2.2) (by rw [l3]; exact R.rc3.1) (by rw [l3]; exact R.rc3.2) E
  rw [l1, l2, l3] at this
  exact this

theorem rall_c (R : RT w B n A1 c1 A2 c2 A3 c3 xs) (hT : Tk kind n xs) :
    Calls Tryd.prog 41 #[.agg #[.int .i64 kind, .slice A1 n c1, .slice A2 n c2, .slice A3 n c3]] w fun e w' => ∃ v, e = .returned v ∧ (Kd.int .i64).R 39 w' w.heap.size (fun _ => True) v (allH kind xs) ∧ Below w.heap.size w w' := by
  have l1 : (gens xs).length = n := by simpa using R.len
  have l2 : (tks xs).length = n := by simpa using R.len
  have l3 : (ths xs).length = n := by simpa using R.len
  have hm := hT.n1
  have := titheref03_All.calls 5000 kind A1 c1 (gens xs) A2 c2 (tks xs) A3 c3 (ths xs) (allH kind xs) w (by rw [l1]; exact R.rc1.1) (by rw [l1]; exact R.rc1.2) (by rw [l2]; exact R.rc2.1) (by rw [l2]; exact R.rc2.2) (by rw [l3]; exact R.rc3.1) (by rw [l3]; exact R.rc3.2) (by
    unfold titheref03_All.f
    exact rall_f hT n 5000 0 (by omega) (by omega))
  rw [l1, l2, l3] at this
  exact this
end

theorem rnew_c (kind : Int) (n : Nat) (w : World) (k0 : 1 ≤ kind) (k3 : kind ≤ 3) (n0 : 1 ≤ n) (n1 : n ≤ 4096) :
    Calls Tryd.prog 10 #[.int .i64 kind, .int .i64 (n : Int)] w fun e w' => ∃ B1 d1 B2 d2 B3 d3, e = .returned (.tuple #[.agg #[.int .i64 kind, .slice B1 n d1, .slice B2 n d2, .slice B3 n d3], .int .i64 0]) ∧ RT w' w.heap.size n B1 d1 B2 d2 B3 d3 (List.replicate n oneSl) ∧ Below w.heap.size w w' := by
  refine (titheref03_New.calls 5000 kind (n : Int) _ _ _ _ _ w (rnew_ok k0 k3 n0 n1)).mono ?_
  rintro e w' ⟨v1, v2, v3, rfl, r1, r2, r3, hb⟩
  obtain ⟨B1, d1, B2, d2, B3, d3, rfl, rfl, rfl, hR⟩ := RT.of (n := n) hb.size (by simp) (Kd.R_mono r1 (fun _ h => ⟨trivial, h⟩)) r2 r3
  exact ⟨B1, d1, B2, d2, B3, d3, rfl, hR, hb⟩

theorem rnew_bad_c (kind many : Int) (w : World) (h : ¬ (1 ≤ kind ∧ kind ≤ 3 ∧ 1 ≤ many ∧ many ≤ 4096)) :
    Calls Tryd.prog 10 #[.int .i64 kind, .int .i64 many] w fun e w' => ∃ B1 d1 B2 d2 B3 d3, e = .returned (.tuple #[.agg #[.int .i64 0, .slice B1 0 d1, .slice B2 0 d2, .slice B3 0 d3], .int .i64 1]) ∧ Below w.heap.size w w' := by
  refine (titheref03_New.calls 5000 kind many _ _ _ _ _ w (rnew_bad h)).mono ?_
  rintro e w' ⟨v1, v2, v3, rfl, r1, r2, r3, hb⟩
  obtain ⟨B1, d1, rfl⟩ := Kd.R_slice r1
  obtain ⟨B2, d2, rfl⟩ := Kd.R_slice r2
  obtain ⟨B3, d3, rfl⟩ := Kd.R_slice r3
  exact ⟨B1, d1, B2, d2, B3, d3, rfl, hb⟩

end Go.Proofs.YtgjlkplieoajlaaDoor
