/- A book of one entry: Even. -/
import Derived.Test.YtahaclglkbgpcaaDoorLg6
set_option linter.unusedVariables false
set_option linter.unusedSimpArgs false
namespace Go.Proofs.YtahaclglkbgpcaaDoor
open Go.RowKit
set_option maxRecDepth 100000

abbrev evCells : Obj := .cells #[.int .i64 0, .int .i64 1, .int .i64 1, .int .i64 0, .int .i64 0, .int .i64 0, .int .i64 0, .int .i64 0, .int .i64 0, .int .i64 0, .int .i64 0, .int .i64 0, .int .i64 0] 61

/-- What Even's run keeps: the book, the map below (empty). -/
structure Ev (W : World) (k b m n : Nat) : Prop where
  blk : W.heap[k]? = some (.cells #[.int .i64 1, .map (some b)] 64 (0, 0))
  map : W.heap[b]? = some (.map #[{ key := .int .i64 1, val := ev 1 1, born := n }] (n + 1))
  em : W.heap[m]? = some (.map #[] 0)
theorem Ev.chg {W W' : World} {k b m n : Nat} (h : Ev W k b m n) {S : Nat → Prop} (hc : Chg S W W') (h1 : ¬ S k) (h2 : ¬ S b) (h3 : ¬ S m) : Ev W' k b m n := ⟨hc.heap h.blk h1, hc.heap h.map h2, hc.heap h.em h3⟩
theorem Ev.below {W W' : World} {k b m n : Nat} (h : Ev W k b m n) (hb : Below W.heap.size W W') : Ev W' k b m n := h.chg (Chg.ofBelow hb (fun _ => False)) (fun f => f) (fun f => f) (fun f => f)
theorem itPut_chg (W : World) (r b n : Nat) : Chg (fun k => k = r) W (itPut W r b n) :=
  ⟨rfl, rfl, rfl, by simp [itPut], fun k hk hn => by simp [itPut, Array.getElem?_setIfInBounds_ne (Ne.symm hn)]⟩
theorem lookE {W : World} {m : Nat} (hb : W.heap[m]? = some (.map #[] 0)) : Sem.run Tryd.prog (Instr.lookup 80 (.map (some m)) (.int .i64 1) false) W = .ok (.int .i64 0) W := by
  have hf : Instr.findNow (.int .i64) (.int .i64 1) ([] : List MapEntry) 0 = some none := rfl
  have hz : (zeroValue 3).run Tryd.prog W = .ok (.int .i64 0) W := by kernel_rfl
  simp [Instr.lookup, run_underlying Tryd.underlying80, MapKept.run_getObj_map hb, ck1, MapKept.run_findKey Tryd.underlying33 hf, hz, Result.andThen]

/-- One step of the range: the worlds by letters. -/
theorem step_facts {W : World} {k b m n : Nat} (h : Ev W k b m n) : ∃ r W2 W3, r = W.heap.size ∧
    Sem.run Tryd.prog (Instr.range 62 (.map (some b))) W = .ok (.pointer (some ⟨r, 0, none⟩)) W2 ∧
    (∀ ty, Sem.run Tryd.prog (Instr.next (.pointer (some ⟨r, 0, none⟩)) false ty) W2 = .ok (.tuple #[.bool true, .int .i64 1, ev 1 1]) W3) ∧
    Sem.run Tryd.prog (Instr.entry (.pointer (some ⟨r, 0, none⟩))) W3 = .ok (.tuple #[.int .i64 1, ev 1 1]) W3 ∧
    (∀ ty, Sem.run Tryd.prog (Instr.next (.pointer (some ⟨r, 0, none⟩)) false ty) (W3.alloc evCells) = .ok (.tuple #[.bool false]) (W3.alloc evCells)) ∧
    Ev W3 k b m n ∧ Ev (W3.alloc evCells) k b m n ∧ Below W.heap.size W W3 := by
  have hbl : b < W.heap.size := (Array.getElem?_eq_some_iff.1 h.map).1
  have hkl : k < W.heap.size := (Array.getElem?_eq_some_iff.1 h.blk).1
  have hml : m < W.heap.size := (Array.getElem?_eq_some_iff.1 h.em).1
  have b2 : Below W.heap.size W (W.alloc (.mapIter (some b) (n + 1) #[] (n + 1))) := (Below.refl _ W).alloc (Nat.le_refl _) _
  have h2 := h.below b2
  have hi : (W.alloc (.mapIter (some b) (n + 1) #[] (n + 1))).heap[W.heap.size]? = some (.mapIter (some b) (n + 1) #[] (n + 1)) := by rw [← World.alloc_eq]; simp
  have hs2 : (W.alloc (.mapIter (some b) (n + 1) #[] (n + 1))).heap.size = W.heap.size + 1 := by simp
  obtain ⟨W2, hW2⟩ : ∃ y, y = W.alloc (.mapIter (some b) (n + 1) #[] (n + 1)) := ⟨_, rfl⟩
  have hr := range1 h.map
  rw [← hW2] at b2 h2 hi hs2 hr
  have h3 := h2.chg (itPut_chg W2 W.heap.size b n) (by show ¬ k = W.heap.size; omega) (by show ¬ b = W.heap.size; omega) (by show ¬ m = W.heap.size; omega)
  have hi3 : (itPut W2 W.heap.size b n).heap[W.heap.size]? = some (.mapIter (some b) (n + 1) #[n] (n + 1)) := by
    have : W.heap.size < W2.heap.size := by omega
    simp [itPut, this]
  have b4 : Below (itPut W2 W.heap.size b n).heap.size (itPut W2 W.heap.size b n) ((itPut W2 W.heap.size b n).alloc evCells) := (Below.refl _ _).alloc (Nat.le_refl _) _
  have hs3 : (itPut W2 W.heap.size b n).heap.size = W2.heap.size := by simp [itPut]
  have h4 := h3.below b4
  have hi4 := (b4.block W.heap.size (by omega)).trans hi3
  exact ⟨W.heap.size, W2, itPut W2 W.heap.size b n, rfl, hr, fun ty => next1 ⟨hi, h2.map⟩ ty, entry1 ⟨hi3, h3.map⟩, fun ty => next2 ⟨hi4, h4.map⟩ ty, h3, h4, b2.trans ((itPut_chg W2 W.heap.size b n).below b2.size (fun j e => by rw [e]; exact Nat.le_refl _))⟩

theorem leven_ok (k b : Nat) (w : World) (h : Bk w k b 1 1) :
    Calls Tryd.prog 15 #[.pointer (some ⟨k, 0, none⟩)] w fun e w' => e = .returned (.bool true) ∧ Below w.heap.size w w' := by
  obtain ⟨n, hn⟩ := h.map
  have hmm := @run_makeMap Tryd.prog
  have b1 : Below w.heap.size w (w.alloc (.map #[] 0)) := (Below.refl _ w).alloc (Nat.le_refl _) _
  have hem : (w.alloc (.map #[] 0)).heap[w.heap.size]? = some (.map #[] 0) := by rw [← World.alloc_eq]; simp
  obtain ⟨W1, hW1⟩ : ∃ y, y = w.alloc (.map #[] 0) := ⟨_, rfl⟩
  have h1' := h.below b1
  have hn1 := b1.block b (Array.getElem?_eq_some_iff.1 hn).1
  rw [hn] at hn1
  rw [← hW1] at b1 hem h1' hn1
  have E1 : Ev W1 k b w.heap.size n := ⟨h1'.blk, hn1, hem⟩
  obtain ⟨r, W2, W3, hr, s1, s2, s3, s4, E3, E4, b3⟩ := step_facts E1
  obtain ⟨r', W5, W6, hr', t1, t2, t3, t4, E6, E7, b6⟩ := step_facts E4
  have hl1 := lookE E6.em
  have hl2 := lookE E7.em
  have HB1 := Lib.hid (below_call b1 (Nat.le_refl _) b3)
  have HW1 := Lib.hid hW1
  have c0 : w.cell? ⟨k, 1, none⟩ = some (.map (some b)) := h.c1
  have hkw : k < w.heap.size := (Array.getElem?_eq_some_iff.1 h.blk).1
  have c1 : W1.cell? ⟨k, 1, none⟩ = some (.map (some b)) := by simp [World.cell?, E1.blk]
  have c3 : (W3.alloc evCells).cell? ⟨k, 0, none⟩ = some (.int .i64 1) := by simp [World.cell?, E4.blk]
  have c4 : (W3.alloc evCells).cell? ⟨k, 1, none⟩ = some (.map (some b)) := by simp [World.cell?, E4.blk]
  have k3 : k < W3.heap.size := (Array.getElem?_eq_some_iff.1 E3.blk).1
  have d3 : W3.cell? ⟨k, 0, none⟩ = some (.int .i64 1) := by simp [World.cell?, E3.blk]
  have d4 : W3.cell? ⟨k, 1, none⟩ = some (.map (some b)) := by simp [World.cell?, E3.blk]
  rw [hW1] at s1
  have HB6 := Lib.hid b6
  have HB3 := Lib.hid b3
  clear hr hr' h hn b1 hem h1' hn1 E1 E3 E4 E6 E7 b3 b6 hW1
  go_enter Tryd.func15, Tryd.ntmps15
  go_wp2_with fail
  refine wp_loop_rounds 2 ?_
  rw [rounds_succ]
  go_wp2_with fail
  rw [rounds_succ]
  go_wp2_with fail
  refine wp_loop_rounds 2 ?_
  rw [rounds_succ]
  go_wp2_with fail
  rw [rounds_succ]
  go_wp2
  go_ret
  have q3 := (Below.refl W3.heap.size W3).alloc (Nat.le_refl _) evCells
  have q6 := (Below.refl W6.heap.size W6).alloc (Nat.le_refl _) evCells
  exact ⟨rfl, below_call (below_call (below_call HB1.out (Nat.le_refl _) q3) (Nat.le_refl _) HB6.out) (Nat.le_refl _) q6⟩

theorem lsure_ok (w : World) : Calls Tryd.prog 9 #[] w fun e w' => e = .returned (.bool true) ∧ Below w.heap.size w w' := by
  go_enter Tryd.func9, Tryd.ntmps9
  go_wp2_with fail
  refine (lnew_ok w).mono ?_
  rintro e w1 ⟨k, b, rfl, hB, hk, hb, hbk, hw⟩
  have HB := Lib.hid hB
  have HW := Lib.hid hw
  have hs1 := hw.size
  have hk1 : k < w1.heap.size := (Array.getElem?_eq_some_iff.1 hB.blk).1
  clear hB hw
  go_wp2_with fail
  have hpa : Below w1.heap.size w1 (w1.alloc (.cells #[.int .i64 1] 33)) := (Below.refl _ _).alloc (Nat.le_refl _) _
  refine (lcharge_ok k b w1.heap.size _ (HB.out.below hpa) (by simp) hbk).mono ?_
  rintro e w2 ⟨rfl, hB2, hc2⟩
  have HB2 := Lib.hid hB2
  have HW2 := Lib.hid ((below_call HW.out (Nat.le_refl _) hpa).trans (hc2.below (Nat.le_trans hs1 hpa.size) (fun j e => by have e' : j = b := e; omega)))
  clear hB2 hc2 hpa
  go_wp2_with fail
  refine (lof_ok k b 1 1 w2 HB2.out).mono ?_
  rintro e w3 ⟨rfl, hb3⟩
  have HB3 := Lib.hid (HB2.out.below hb3)
  have HW3 := Lib.hid (below_call HW2.out (Nat.le_refl _) hb3)
  clear hb3
  go_wp2_with fail
  obtain ⟨w4, hw4⟩ : ∃ y, y = (w3.alloc (.cells #[.int .i64 1, .int .i64 1, .int .i64 0, .int .i64 0, .int .i64 0, .int .i64 0] 23)).alloc (.cells #[.int .i64 0, .int .i64 0, .int .i64 0, .int .i64 0, .int .i64 0, .int .i64 0] 23) := ⟨_, rfl⟩
  rw [← hw4]
  have hb4 : Below w3.heap.size w3 w4 := by rw [hw4]; exact ((Below.refl _ _).alloc (Nat.le_refl _) _).alloc (by simp) _
  refine (leven_ok k b w4 (HB3.out.below hb4)).mono ?_
  rintro e w5 ⟨rfl, hb5⟩
  have HW5 := Lib.hid (below_call (below_call HW3.out (Nat.le_refl _) hb4) (Nat.le_refl _) hb5)
  clear hb4 hb5 hw4
  go_wp2
  go_ret
  exact ⟨rfl, HW5.out⟩

end Go.Proofs.YtahaclglkbgpcaaDoor
