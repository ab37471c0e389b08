/- A table's Slots, by contract. -/
import Derived.Test.YtgjlkplieoajlaaDoorSl5
set_option linter.unusedVariables false
set_option linter.unusedSimpArgs false
namespace Go.Proofs.YtgjlkplieoajlaaDoor
open Go.RowKit
open Go.Proofs.YtgjlkplieoajlaaDoorW.PrintWords (Kd Drawn0 Kept rd rdOf)
open Go.Proofs.YtgjlkplieoajlaaDoor.PSlotsTwins
set_option maxRecDepth 100000
theorem cell_al {w : World} {a : Addr} {v : Value} {o : Obj} (h : w.cell? a = some v) : (w.alloc o).cell? a = some v := by
  rw [World.cell?_alloc_lt _ _ a (World.block_lt_of_cell? w a h)]; exact h
theorem cell_at {W : World} {g : Nat} {v : Value} {T : TypeId} (h : W.heap.size = g) : (W.alloc (.cells #[v] T)).cell? ⟨g, 0, none⟩ = some v := by
  subst h; simp
theorem cell_one {W : World} {g : Nat} {x : Value} (h : W.cell? ⟨g, 0, none⟩ = some x) : ∀ j u, [x][j]? = some u → W.cell? ((⟨g, 0, none⟩ : Addr).add j) = some u := by
  intro j u hj
  rw [YtgjlkplieoajlaaDoorW.PrintWords.add_plain]
  match j with
  | 0 => simp at hj; subst hj; exact h
  | j + 1 => simp at hj
theorem grown_cell {w w1 : World} {row : Option Nat} (h : w.grownBy w1 row) {b o : Nat} {v : Value} (hb : w.cell? ⟨b, o, none⟩ = some v) (hne : some b ≠ row) : w1.cell? ⟨b, o, none⟩ = some v := by
  have hlt := World.block_lt_of_cell? w ⟨b, o, none⟩ hb
  have := h.block b hlt hne
  simpa [World.cell?, this] using hb
theorem own_ne_types {w : World} {b1 b2 : Nat} {e1 e2 : TypeId} {s1 s2 n1 n2 : Nat} {v1 v2 : Value} {x1 x2 : List Value} (h1 : w.ownsRow b1 e1 s1 v1 n1 x1) (h2 : w.ownsRow b2 e2 s2 v2 n2 x2) (ht : e1 ≠ e2) : v2.ownBlock = none ∨ v2.ownBlock ≠ v1.ownBlock := by
  rcases h2.2 with ⟨rfl, _⟩ | ⟨g, cap, cur, rfl, hg, hh, r⟩
  · exact .inl rfl
  · refine .inr (fun e => ?_)
    obtain ⟨cells, hc⟩ := YtgjlkplieoajlaaDoorW.PrintWords.own_typed h1 g (by rw [← e]; rfl)
    rw [hc] at hh
    simp at hh
    exact ht hh.2
set_option maxHeartbeats 1000000 in
theorem slots_ok (t g n cap : Nat) (kind : Int) (xs : List Sl) (w : World) (H : TB w t g n cap kind xs) (hT : Tk kind n xs) :
    Calls Tryd.prog 23 #[.pointer (some ⟨t, 0, none⟩)] w fun e w' => ∃ v u, e = .returned (.tuple #[v, u]) ∧ (Kd.int .i64).R 3 w' w.heap.size (fun _ => True) v (xs.map (·.f0)) ∧ Kd.bool.R 4 w' w.heap.size (fun _ => True) u (xs.map (·.f1)) ∧ Below w.heap.size w w' := by
  have c1 := H.c1
  have hl := H.len
  have hn := hT.n1
  have HH := Lib.hid H
  have HT := Lib.hid hT
  clear H hT
  obtain ⟨i0, hi, hz0, hz1, hz2⟩ := info_parts info3
  obtain ⟨j0, hj, hy0, hy1, hy2⟩ := info_parts info4
  go_enter Tryd.func23, Tryd.ntmps23
  go_wp2
  clear c1
  go_loopw [4, 5, 15] (fun v u i wr => ∃ k : Nat, k ≤ n ∧ i = .int .i64 k ∧ Hid ((Kd.int .i64).R 3 wr w.heap.size (fun _ => True) v ((xs.take k).map (·.f0))) ∧ Hid (Kd.bool.R 4 wr w.heap.size (fun _ => True) u ((xs.take k).map (·.f1))) ∧ Hid (Below w.heap.size w wr)) (fun _ _ i _ => n - (intOf i).toNat)
  case atStart => exact ⟨0, Nat.zero_le _, rfl, Lib.hid (Kd.R_nil _ _ _ _ _), Lib.hid (Kd.R_nil _ _ _ _ _), Lib.hid (Below.refl _ _)⟩
  case round =>
    obtain ⟨k, hk, rfl, hR, hS, hB⟩ := hrel
    by_cases hlt : k < n
    · obtain ⟨x, hx⟩ : ∃ x, xs[k]? = some x := ⟨xs[k], List.getElem?_eq_getElem (by omega)⟩
      have HW := Lib.hid (HH.out.below hB.out)
      have e0 := HW.out.e0 hx
      have e1 := HW.out.e1 hx
      have e2 := HW.out.e2 hx
      have HX := Lib.hid hx
      clear hx
      obtain ⟨gen, tk, thing⟩ := x
      go_wp2_with fail
      have B4 := Kd.R_lt hR.out
      have B5 := Kd.R_lt hS.out
      have HI := Lib.hid (Kd.own_of_R (Kd.R_alloc hR.out (.cells #[.int .i64 gen, .bool tk, .int .i64 thing] 90)))
      have HJ := Lib.hid (Kd.own_of_R (Kd.R_alloc hS.out (.cells #[.int .i64 gen, .bool tk, .int .i64 thing] 90)))
      have HB0 := Lib.hid (below_alloc hB.out (Nat.le_refl _) (.cells #[.int .i64 gen, .bool tk, .int .i64 thing] 90))
      have q0 : (wr.alloc (.cells #[.int .i64 gen, .bool tk, .int .i64 thing] 90)).cell? ⟨wr.heap.size, 0, none⟩ = some (.int .i64 gen) := by simp
      have q1 : (wr.alloc (.cells #[.int .i64 gen, .bool tk, .int .i64 thing] 90)).cell? ⟨wr.heap.size, 1, none⟩ = some (.bool tk) := by simp
      have N4 := Lib.hid (show some wr.heap.size ≠ u4.ownBlock from fun e => by have := B4 _ e.symm; omega)
      have L4 := Lib.hid (show ∀ k, u4.ownBlock = some k → k < (wr.alloc (.cells #[.int .i64 gen, .bool tk, .int .i64 thing] 90)).heap.size from fun k e => by have := B4 _ e; simp; omega)
      have L5 := Lib.hid (show ∀ k, u5.ownBlock = some k → k < (wr.alloc (.cells #[.int .i64 gen, .bool tk, .int .i64 thing] 90)).heap.size from fun k e => by have := B5 _ e; simp; omega)
      generalize (wr.alloc (.cells #[.int .i64 gen, .bool tk, .int .i64 thing] 90)) = W0 at HI HJ HB0 q0 q1 L4 L5 ⊢
      generalize wr.heap.size = B at q0 q1 N4 ⊢
      clear B4 B5 e0 e1 e2 HW hR hS hB
      have N45 : Hid (u5.ownBlock = none ∨ u5.ownBlock ≠ u4.ownBlock) := Lib.hid (own_ne_types HI.out HJ.out (by decide))
      have T4 := Lib.hid (show YtgjlkplieoajlaaDoorW.PrintWords.encs (Value.int .i64) ((xs.take (k + 1)).map (·.f0)) = YtgjlkplieoajlaaDoorW.PrintWords.encs (Value.int .i64) ((xs.take k).map (·.f0)) ++ [.int .i64 gen] by rw [take_snoc' xs k _ HX.out]; simp [YtgjlkplieoajlaaDoorW.PrintWords.encs])
      have T5 := Lib.hid (show YtgjlkplieoajlaaDoorW.PrintWords.encs Value.bool ((xs.take (k + 1)).map (·.f1)) = YtgjlkplieoajlaaDoorW.PrintWords.encs Value.bool ((xs.take k).map (·.f1)) ++ [.bool tk] by rw [take_snoc' xs k _ HX.out]; simp [YtgjlkplieoajlaaDoorW.PrintWords.encs])
      have M4 := Lib.hid (show ((xs.take (k + 1)).map (·.f0)).length = k + 1 by simp; omega)
      have M5 := Lib.hid (show ((xs.take (k + 1)).map (·.f1)).length = k + 1 by simp; omega)
      have len4 : ((xs.take k).map (·.f0)).length = k := by simp; omega
      have len5 : ((xs.take k).map (·.f1)).length = k := by simp; omega
      rw [len4] at HI
      rw [len5] at HJ
      have s0 := HB0.out.size
      have hBl : B < W0.heap.size := World.block_lt_of_cell? W0 ⟨B, 0, none⟩ q0
      go_region_law (first
        | (refine step_append_lies _ rfl (.tmp 19) (.tmp 22) 27 rfl w.heap.size 3 i0 (.int .i64 0) 1 8 Tryd.underlying27 hi hz0 hz1 hz2 rfl (by decide) u4 k (YtgjlkplieoajlaaDoorW.PrintWords.encs (Value.int .i64) ((xs.take k).map (·.f0))) rfl ?own ⟨W0.heap.size, 0, none⟩ 1 1 [.int .i64 gen] rfl rfl ?cell (fun u hu => by simp at hu; subst hu; rfl) (by omega) (by unfold maxLen; omega) (by omega) ?bas _ rfl ?_; (case own => repeat (first | exact HI.out | refine World.ownsRow.alloc ?_ _)); (case cell => exact cell_one (cell_at (by first | rfl | simp))); (case bas => (first | omega | (simp; omega))); intro g1 cap1 w1 hown1 hgrow1 hat1 hlt1; have q1' := grown_cell hgrow1 (b := B) (o := 1) (v := .bool tk) (by repeat (first | exact q1 | refine cell_al ?_)) N4.out; have HJ' := Lib.hid (World.ownsRow.kept (show World.ownsRow _ w.heap.size 4 1 u5 k (YtgjlkplieoajlaaDoorW.PrintWords.encs Value.bool ((xs.take k).map (·.f1))) by repeat (first | exact HJ.out | refine World.ownsRow.alloc ?_ _)) hgrow1 N45.out); have hs1 := hgrow1.size; simp at hs1; have HG1 := Lib.hid hgrow1; have HO1 := Lib.hid hown1; clear hat1 hgrow1 hown1)
        | (refine step_append_lies _ rfl (.tmp 19) (.tmp 22) 27 rfl w.heap.size 3 i0 (.int .i64 0) 1 8 Tryd.underlying27 hi hz0 hz1 hz2 rfl (by decide) u4 k (YtgjlkplieoajlaaDoorW.PrintWords.encs (Value.int .i64) ((xs.take k).map (·.f0))) rfl ?own ⟨W0.heap.size + 1, 0, none⟩ 1 1 [.int .i64 gen] rfl rfl ?cell (fun u hu => by simp at hu; subst hu; rfl) (by omega) (by unfold maxLen; omega) (by omega) ?bas _ rfl ?_; (case own => repeat (first | exact HI.out | refine World.ownsRow.alloc ?_ _)); (case cell => exact cell_one (cell_at (by first | rfl | simp))); (case bas => (first | omega | (simp; omega))); intro g1 cap1 w1 hown1 hgrow1 hat1 hlt1; have q1' := grown_cell hgrow1 (b := B) (o := 1) (v := .bool tk) (by repeat (first | exact q1 | refine cell_al ?_)) N4.out; have HJ' := Lib.hid (World.ownsRow.kept (show World.ownsRow _ w.heap.size 4 1 u5 k (YtgjlkplieoajlaaDoorW.PrintWords.encs Value.bool ((xs.take k).map (·.f1))) by repeat (first | exact HJ.out | refine World.ownsRow.alloc ?_ _)) hgrow1 N45.out); have hs1 := hgrow1.size; simp at hs1; have HG1 := Lib.hid hgrow1; have HO1 := Lib.hid hown1; clear hat1 hgrow1 hown1; have r' := Lib.hid (grown_cell HG1.out (b := W0.heap.size) (o := 0) (v := .bool tk) (cell_al (cell_at rfl)) (fun e => by have := L4.out _ e.symm; omega)))
        | (refine step_append_lies _ rfl (.tmp 24) (.tmp 27) 28 rfl w.heap.size 4 j0 (.bool false) 1 1 Tryd.underlying28 hj hy0 hy1 hy2 rfl (by decide) u5 k (YtgjlkplieoajlaaDoorW.PrintWords.encs Value.bool ((xs.take k).map (·.f1))) rfl ?own ⟨w1.heap.size, 0, none⟩ 1 1 [.bool tk] rfl rfl ?cell (fun u hu => by simp at hu; subst hu; rfl) (by omega) (by unfold maxLen; omega) (by omega) ?bas _ rfl ?_; (case own => repeat (first | exact HJ'.out | refine World.ownsRow.alloc ?_ _)); (case cell => exact cell_one (cell_at rfl)); (case bas => (first | omega | (simp; omega))); intro g2 cap2 w2 hown2 hgrow2 hat2 hlt2; have HG2 := Lib.hid hgrow2; have HO2 := Lib.hid hown2; clear hat2 hgrow2 hown2)
        | (refine step_append_lies _ rfl (.tmp 24) (.tmp 27) 28 rfl w.heap.size 4 j0 (.bool false) 1 1 Tryd.underlying28 hj hy0 hy1 hy2 rfl (by decide) u5 k (YtgjlkplieoajlaaDoorW.PrintWords.encs Value.bool ((xs.take k).map (·.f1))) rfl ?own ⟨W0.heap.size, 0, none⟩ 1 1 [.bool tk] rfl rfl ?cell (fun u hu => by simp at hu; subst hu; rfl) (by omega) (by unfold maxLen; omega) (by omega) ?bas _ rfl ?_; (case own => repeat (first | exact HJ'.out | refine World.ownsRow.alloc ?_ _)); (case cell => exact cell_one r'.out); (case bas => (first | omega | (simp; omega))); intro g2 cap2 w2 hown2 hgrow2 hat2 hlt2; have HG2 := Lib.hid hgrow2; have HO2 := Lib.hid hown2; clear hat2 hgrow2 hown2)
        | (refine step_append_lies _ rfl (.tmp 24) (.tmp 27) 28 rfl w.heap.size 4 j0 (.bool false) 1 1 Tryd.underlying28 hj hy0 hy1 hy2 rfl (by decide) u5 k (YtgjlkplieoajlaaDoorW.PrintWords.encs Value.bool ((xs.take k).map (·.f1))) rfl ?own ⟨W0.heap.size + 1, 0, none⟩ 1 1 [.bool tk] rfl rfl ?cell (fun u hu => by simp at hu; subst hu; rfl) (by omega) (by unfold maxLen; omega) (by omega) ?bas _ rfl ?_; (case own => repeat (first | exact HJ'.out | refine World.ownsRow.alloc ?_ _)); (case cell => exact cell_one r'.out); (case bas => (first | omega | (simp; omega))); intro g2 cap2 w2 hown2 hgrow2 hat2 hlt2; have HG2 := Lib.hid hgrow2; have HO2 := Lib.hid hown2; clear hat2 hgrow2 hown2)
        | (refine step_append_lies _ rfl (.tmp 19) (.tmp 22) 27 rfl w.heap.size 3 i0 (.int .i64 0) 1 8 Tryd.underlying27 hi hz0 hz1 hz2 rfl (by decide) u4 k (YtgjlkplieoajlaaDoorW.PrintWords.encs (Value.int .i64) ((xs.take k).map (·.f0))) rfl ?own ⟨W0.heap.size, 0, none⟩ 1 1 [.int .i64 gen] rfl rfl ?cell (fun u hu => by simp at hu; subst hu; rfl) (by omega) (by unfold maxLen; omega) (by omega) ?bas _ rfl ?_; (case own => repeat (first | exact HI.out | refine World.ownsRow.alloc ?_ _)); (case cell => exact cell_one (cell_al (cell_at rfl))); (case bas => (first | omega | (simp; omega))); intro g1 cap1 w1 hown1 hgrow1 hat1 hlt1; have q1' := grown_cell hgrow1 (b := B) (o := 1) (v := .bool tk) (by repeat (first | exact q1 | refine cell_al ?_)) N4.out; have HJ' := Lib.hid (World.ownsRow.kept (show World.ownsRow _ w.heap.size 4 1 u5 k (YtgjlkplieoajlaaDoorW.PrintWords.encs Value.bool ((xs.take k).map (·.f1))) by repeat (first | exact HJ.out | refine World.ownsRow.alloc ?_ _)) hgrow1 N45.out); have hs1 := hgrow1.size; simp at hs1; have HG1 := Lib.hid hgrow1; have HO1 := Lib.hid hown1; clear hat1 hgrow1 hown1; have r' := Lib.hid (grown_cell HG1.out (b := W0.heap.size + 1) (o := 0) (v := .bool tk) (cell_at (by simp)) (fun e => by have := L4.out _ e.symm; omega))))
      all_goals
        have F1 : Below w.heap.size w w1 := by
          refine YtgjlkplieoajlaaDoorW.PrintWords.pw_below_grown ?_ _ ?_ HG1.out (YtgjlkplieoajlaaDoorW.PrintWords.own_base HI.out)
          · repeat (first | exact HB0.out | refine YtgjlkplieoajlaaDoorW.PrintWords.below_alloc ?_ _ | refine YtgjlkplieoajlaaDoorW.PrintWords.below_drew ?_)
          · first | omega | (simp; omega)
        have F2 : Below w.heap.size w w2 := by
          refine YtgjlkplieoajlaaDoorW.PrintWords.pw_below_grown ?_ _ ?_ HG2.out (YtgjlkplieoajlaaDoorW.PrintWords.own_base HJ.out)
          · repeat (first | exact F1 | refine YtgjlkplieoajlaaDoorW.PrintWords.below_alloc ?_ _)
          · first | omega | (simp; omega)
        have O1 : w2.ownsRow w.heap.size 3 1 (.slice (some ⟨g1, 0, none⟩) (k + 1) cap1) (k + 1) (YtgjlkplieoajlaaDoorW.PrintWords.encs (Value.int .i64) ((xs.take k).map (·.f0)) ++ [.int .i64 gen]) :=
          World.ownsRow.kept (by repeat (first | exact HO1.out | refine World.ownsRow.alloc ?_ _)) HG2.out (own_ne_types HJ'.out HO1.out (by decide))
        have R1 := Lib.hid (show (Kd.int .i64).R 3 w2 w.heap.size (fun _ => True) (.slice (some ⟨g1, 0, none⟩) (k + 1) cap1) ((xs.take (k + 1)).map (·.f0)) from Kd.R_of_own (by rw [M4.out, T4.out]; exact O1) (fun _ _ => trivial))
        have R2 := Lib.hid (show Kd.bool.R 4 w2 w.heap.size (fun _ => True) (.slice (some ⟨g2, 0, none⟩) (k + 1) cap2) ((xs.take (k + 1)).map (·.f1)) from Kd.R_of_own (by rw [M5.out, T5.out]; exact HO2.out) (fun _ _ => trivial))
        have HF := Lib.hid F2
        clear F1 F2 O1
        go_wp2
        go_roundw
        case rel => exact ⟨k + 1, by omega, by go_num, R1, R2, HF⟩
        case measure => simp [intOf]; omega
    · go_wp2
      go_ret2
      have e : k = n := by omega
      subst e
      have r1 := hR.out
      have r2 := hS.out
      rw [List.take_of_length_le (by omega)] at r1 r2
      exact ⟨_, _, rfl, r1, r2, hB.out⟩
end Go.Proofs.YtgjlkplieoajlaaDoor
