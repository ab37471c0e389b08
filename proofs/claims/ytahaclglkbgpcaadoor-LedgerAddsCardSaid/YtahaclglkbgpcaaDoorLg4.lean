/- A book of one entry: New, find, way, Charge, Of. -/
import Derived.Test.YtahaclglkbgpcaaDoorLg3
set_option linter.unusedVariables false
set_option linter.unusedSimpArgs false
namespace Go.Proofs.YtahaclglkbgpcaaDoor
open Go.RowKit
set_option maxRecDepth 100000

/-- An entry whose account has these two. -/
abbrev ev (g o : Int) : Value := .agg #[.int .i64 0, .int .i64 g, .int .i64 o, .int .i64 0, .int .i64 0, .int .i64 0, .int .i64 0, .int .i64 0, .int .i64 0, .int .i64 0, .int .i64 0, .int .i64 0, .int .i64 0]
/-- The book. -/
structure Bk (W : World) (k b : Nat) (g o : Int) : Prop where
  blk : W.heap[k]? = some (.cells #[.int .i64 1, .map (some b)] 64 (0, 0))
  map : M1e W b (ev g o)
theorem Bk.c0 {W : World} {k b : Nat} {g o : Int} (h : Bk W k b g o) : W.cell? ⟨k, 0, none⟩ = some (.int .i64 1) := by simp [World.cell?, h.blk]
theorem Bk.c1 {W : World} {k b : Nat} {g o : Int} (h : Bk W k b g o) : W.cell? ⟨k, 1, none⟩ = some (.map (some b)) := by simp [World.cell?, h.blk]
theorem Bk.chg {W W' : World} {k b : Nat} {g o : Int} (h : Bk W k b g o) {S : Nat → Prop} (hc : Chg S W W') (h1 : ¬ S k) (h2 : ¬ S b) : Bk W' k b g o := ⟨hc.heap h.blk h1, h.map.chg hc h2⟩
theorem Bk.below {W W' : World} {k b : Nat} {g o : Int} (h : Bk W k b g o) (hb : Below W.heap.size W W') : Bk W' k b g o := h.chg (Chg.ofBelow hb (fun _ => False)) (fun f => f) (fun f => f)

theorem lfind_ok (k b : Nat) (g o : Int) (w : World) (h : Bk w k b g o) :
    Calls Tryd.prog 33 #[.pointer (some ⟨k, 0, none⟩), .int .i64 1] w fun e w' => e = .returned (.tuple #[ev g o, .nilIface]) ∧ Below w.heap.size w w' := by
  have c0 := h.c0
  have c1 := h.c1
  have hl := fun (o : Obj) => look1k (h.map.below ((Below.refl w.heap.size w).alloc (Nat.le_refl _) o))
  have hk : k < w.heap.size := (Array.getElem?_eq_some_iff.1 h.blk).1
  have HH := Lib.hid h
  clear h
  go_enter Tryd.func33, Tryd.ntmps33
  go_wp2_with fail
  refine bodyPost_ret (v := .tuple #[ev g o, .nilIface]) (by simp [results, Tryd.results33, go_sem]) rfl ⟨rfl, ((Below.refl _ w).alloc (Nat.le_refl _) _).alloc (by simp) _⟩

theorem lnew_ok (w : World) :
    Calls Tryd.prog 10 #[.int .i64 1] w fun e w' => ∃ k b, e = .returned (.pointer (some ⟨k, 0, none⟩)) ∧ Bk w' k b 0 0 ∧ w.heap.size ≤ k ∧ w.heap.size ≤ b ∧ b < k ∧ Below w.heap.size w w' := by
  have hmm := @run_makeMap Tryd.prog
  have h0 : (w.alloc (.map #[] 0)).heap[w.heap.size]? = some (.map #[] 0) := by rw [← World.alloc_eq]; simp
  have hup := upd0 (ev 0 0) h0
  obtain ⟨W1, hW1⟩ : ∃ y, y = put1 (w.alloc (.map #[] 0)) w.heap.size (ev 0 0) 0 := ⟨_, rfl⟩
  have hm1 : M1e W1 w.heap.size (ev 0 0) := by rw [hW1]; exact put1_at _ _ h0
  have hs1 : W1.heap.size = w.heap.size + 1 := by rw [hW1]; simp [put1]
  have hb1 : Below w.heap.size w W1 := by
    rw [hW1]
    exact ((Below.refl _ w).alloc (Nat.le_refl _) _).trans ((put1_chg _ _ _ _).below (by simp) (fun k e => by rw [e]; exact Nat.le_refl _))
  rw [← hW1] at hup
  have HM1 := Lib.hid hm1
  have HB1 := Lib.hid hb1
  clear hm1 hb1 h0 hW1
  go_enter Tryd.func10, Tryd.ntmps10
  go_wp2_with fail
  refine bodyPost_ret (v := .pointer (some ⟨W1.heap.size, 0, none⟩)) (by simp [results, Tryd.results10, go_sem]) rfl ?_
  have hb2 := (Below.refl W1.heap.size W1).alloc (Nat.le_refl _) (.cells #[.int .i64 1, .map (some w.heap.size)] 64)
  exact ⟨W1.heap.size, w.heap.size, rfl, ⟨heap_alloc_new W1 _, HM1.out.below hb2⟩, by omega, Nat.le_refl _, by omega, below_call HB1.out (Nat.le_refl _) hb2⟩
end Go.Proofs.YtahaclglkbgpcaaDoor
