/- Of the text LF1 only what this claim needs (shake.py, this repo's). -/
import Derived.Test.YtkfjlkpickeobaaZTSm
import Derived.Test.YtkfjlkpickeobaaZTpC
import Derived.Test.YtkfjlkpickeobaaZPLeafUrgentx15
set_option linter.unusedVariables false
set_option linter.unusedSimpArgs false
namespace Go.Proofs.Ytkfjlkpickeobaa
open Go.RowKit
open Go.Proofs.YtkfjlkpickeobaaW.PrintWords (Kd Drawn0 Kept rd rdOf)
open Go.Proofs.Ytkfjlkpickeobaa.PLeafUrgent
set_option maxRecDepth 100000

/-- A leaf: its block p, its table's block t, its slots' block g. -/
structure LF (w : World) (p t g cap : Nat) (xs : List Sk) : Prop where
  blk : w.heap[p]? = some (.cells #[.pointer (some ⟨t, 0, none⟩)] 56 (0, 0))
  tt : TT w t g 8 cap 2 xs
  tm : TM 2 8 xs
section
variable {w w' : World} {p t g cap : Nat} {xs : List Sk}
theorem LF.c0 (h : LF w p t g cap xs) : w.cell? ⟨p, 0, none⟩ = some (.pointer (some ⟨t, 0, none⟩)) := by simp [World.cell?, h.blk]
theorem LF.lt (h : LF w p t g cap xs) : p < w.heap.size := (Array.getElem?_eq_some_iff.1 h.blk).1
theorem LF.ne (h : LF w p t g cap xs) : p ≠ g := h.tt.row.ty_ne h.blk (by decide)
theorem LF.below (h : LF w p t g cap xs) (hb : Below w.heap.size w w') : LF w' p t g cap xs := ⟨(hb.block p h.lt).trans h.blk, h.tt.below hb, h.tm⟩
theorem LF.alloc (h : LF w p t g cap xs) (o : Obj) : LF (w.alloc o) p t g cap xs := h.below ((Below.refl _ w).alloc (Nat.le_refl _) o)
/-- The slots turned alone. -/
theorem LF.put {ys : List Sk} (h : LF w p t g cap xs) (hc : Chg (fun k => k = g) w w') (ht : TT w' t g 8 cap 2 ys) (hm : TM 2 8 ys) : LF w' p t g cap ys := ⟨hc.heap h.blk (fun e => h.ne e), ht, hm⟩
end

theorem ltab_ok (p t g cap : Nat) (xs : List Sk) (w : World) (h : LF w p t g cap xs) :
    Calls Try.prog 14 #[.pointer (some ⟨p, 0, none⟩)] w fun e w' => e = .returned (.pointer (some ⟨t, 0, none⟩)) ∧ w = w' := by
  have c0 := h.c0
  clear h
  go_enter Try.func14, Try.ntmps14
  go_wp2
  go_ret
  exact ⟨rfl, rfl⟩

theorem lnew_ok (w : World) :
    Calls Try.prog 4 #[] w fun e w' => ∃ p t g cap, e = .returned (.pointer (some ⟨p, 0, none⟩)) ∧ LF w' p t g cap (List.replicate 8 oneSk) ∧ w.heap.size ≤ p ∧ w.heap.size ≤ t ∧ w.heap.size ≤ g ∧ Below w.heap.size w w' := by
  go_enter Try.func4, Try.ntmps4
  go_wp2_with fail
  refine (tnews_ok 2 8 _ (by omega) (by omega) (by omega) (by omega)).mono ?_
  rintro e w1 ⟨t, g, cap, rfl, hT, ht, hg, hb⟩
  have HT := Lib.hid hT
  have HB := Lib.hid hb
  have Ht := Lib.hid ht
  have Hg := Lib.hid hg
  clear hT hb ht hg
  go_wp2
  go_ret
  refine ⟨_, t, g, cap, rfl, ⟨heap_alloc_new w1 _, HT.out.below ((Below.refl _ w1).alloc (Nat.le_refl _) _), TM.one (by omega) (by omega) (by omega) (by omega)⟩, HB.out.size, Ht.out, Hg.out, below_alloc HB.out (Nat.le_refl _) _⟩

theorem lall_ok (p t g cap : Nat) (xs : List Sk) (w : World) (h : LF w p t g cap xs) :
    Calls Try.prog 5 #[.pointer (some ⟨p, 0, none⟩)] w fun e w' => ∃ v, e = .returned v ∧ (Kd.int .i64).R 27 w' w.heap.size (fun _ => True) v (tallH 2 xs) ∧ Below w.heap.size w w' := by
  have HL := Lib.hid h
  clear h
  go_enter Try.func5, Try.ntmps5
  go_wp2_with fail
  refine (ltab_ok p t g cap xs _ HL.out).mono ?_
  rintro e w_ ⟨rfl, rfl⟩
  go_wp2_with fail
  refine (tall_ok t g 8 cap 2 xs _ HL.out.tt HL.out.tm).mono ?_
  rintro e w1 ⟨v, rfl, hR, hb⟩
  obtain ⟨A, c, rfl⟩ := Kd.R_slice hR
  have HR := Lib.hid hR
  have HB := Lib.hid hb
  clear hR hb
  go_wp2
  go_ret
  exact ⟨_, rfl, HR.out, HB.out⟩

theorem kJ_KM {w W : World} {base : Nat} {ok : Nat → Prop} {x : Jb} {cs : List Value} (h : kJ.K w x cs) : kJ.M W base ok x cs := by
  obtain rfl := k29_open h
  exact k29_mkM W base ok x
theorem lown_ok (T : Tk) (v : Value) (w : World) (h : TR w v T.js) (hl : T.js.length * 32 ≤ 140737488351232) :
    Calls Try.prog 17 #[T.v v] w fun e w' => ∃ v', e = .returned (T.v v') ∧ JR w' v' T.js ∧ Below w.heap.size w w' := by
  obtain ⟨A, c, rfl, hc, hC⟩ := h
  obtain ⟨b1, hb1⟩ : ∃ b, b = w.heap.size := ⟨_, rfl⟩
  obtain ⟨b2, hb2⟩ : ∃ b, b = w.heap.size + 1 := ⟨_, rfl⟩
  obtain ⟨W0, hW0⟩ : ∃ W, W = (w.alloc (.cells #[.int .i64 T.p, .slice A T.js.length c, .int .i64 T.g, .int .i64 T.o, .int .i64 T.l, .int .i64 T.d, .int .i64 T.c, .int .i64 T.t] 36)).alloc (.cells #[.int .i64 0, .slice none 0 0, .int .i64 0, .int .i64 0, .int .i64 0, .int .i64 0, .int .i64 0, .int .i64 0] 36) := ⟨_, rfl⟩
  have hx : BX w.heap.size w W0 [T.cs (.slice A T.js.length c), zT.cs nilS] := by rw [hW0]; exact BX.new w [T.cs (.slice A T.js.length c), zT.cs nilS]
  have hs0 : W0.heap.size = w.heap.size + 2 := by rw [hW0]; simp
  have HX := Lib.hid hx
  have HC := Lib.hid (Kd.C_below hC hx.be)
  have HB0 := Lib.hid hx.be
  have HW0 := Lib.hid hW0
  have Hb1 := Lib.hid hb1
  have Hb2 := Lib.hid hb2
  have HS0 := Lib.hid hs0
  have HL := Lib.hid hl
  have hx1 : w.cell? ⟨0, 0, none⟩ = w.cell? ⟨0, 0, none⟩ := rfl
  obtain ⟨q0, q1, q2, q3, q4, q5, q6, q7⟩ := hx.t8 0 (b := b1) (by rw [hb1]; rfl) rfl
  clear hx hC hW0 hb1 hb2 hs0 hl hx1
  go_enter Try.func17, Try.ntmps17
  go_wp2_with (first
    | (at_builtin; rw [← HW0.out]; go_loud (refine Kd.R_append_rows kJ (w0 := W0) W0.heap.size rfl (.const (.slice none 0 0)) (.tmp 4) 32 29 (.agg #[.int .i64 0, .int .i64 0, .int .i64 0, .int .i64 0]) 32 rfl Try.underlying32 infoJ rfl (by decide) (by omega) (.slice none 0 0) [] T.js A T.js.length c (fun _ => True) (fun _ => False) rfl rfl (Kd.R_nil _ _ _ _ _) HC.out (fun _ _ h => kJ_KM h) (fun _ hk => hk.elim) (fun _ _ => trivial) (Below.refl _ _) (Nat.le_refl _) (by have := HL.out; simp; omega) ?_); intro v1 w1 hR1 hB1 hg1 hat1; rw [List.nil_append] at hR1; obtain ⟨A1, c1, rfl⟩ := Kd.R_slice hR1; have HR1 := Lib.hid hR1; have hx1 := HX.out.call hB1; have HX1 := Lib.hid hx1; obtain ⟨q0, q1, q2, q3, q4, q5, q6, q7⟩ := hx1.t8 0 (b := w.heap.size) rfl rfl; obtain ⟨p0, p1, p2, p3, p4, p5, p6, p7⟩ := hx1.t8 1 (b := w.heap.size + 1) rfl rfl; obtain ⟨m0, m1, m2, m3, m4, m5, m6, m7⟩ := hx1.f8 0 (b := w.heap.size) rfl rfl; obtain ⟨r0, r1, r2, r3, r4, r5, r6, r7⟩ := hx1.f8 1 (b := w.heap.size + 1) rfl rfl; clear hR1 hB1 hg1 hat1 hx1)
    | fail)
  have hbb := HX1.out.be.setCell (p := ⟨w.heap.size, 1, none⟩) (Nat.le_refl _) (.slice A1 T.js.length c1)
  have HBB := Lib.hid (below_set8 hbb (b := w.heap.size + 1) (by omega) (.int .i64 T.p) (.slice A1 T.js.length c1) (.int .i64 T.g) (.int .i64 T.o) (.int .i64 T.l) (.int .i64 T.d) (.int .i64 T.c) (.int .i64 T.t))
  have HJ := Lib.hid (Kd.R_mono (ok' := fun _ => True) (Kd.R_step (w1 := ((((((((w1.setCell ⟨w.heap.size, 1, none⟩ (.slice A1 T.js.length c1)).setCell ⟨w.heap.size + 1, 0, none⟩ (.int .i64 T.p)).setCell ⟨w.heap.size + 1, 1, none⟩ (.slice A1 T.js.length c1)).setCell ⟨w.heap.size + 1, 2, none⟩ (.int .i64 T.g)).setCell ⟨w.heap.size + 1, 3, none⟩ (.int .i64 T.o)).setCell ⟨w.heap.size + 1, 4, none⟩ (.int .i64 T.l)).setCell ⟨w.heap.size + 1, 5, none⟩ (.int .i64 T.d)).setCell ⟨w.heap.size + 1, 6, none⟩ (.int .i64 T.c)).setCell ⟨w.heap.size + 1, 7, none⟩ (.int .i64 T.t)) (Kd.R_bound HR1.out) (fun k hk hlt => by
    have h1 := hk.2.1
    have h2 := HS0.out
    have s : ∀ (W : World) (b j : Nat) (x : Value), k ≠ b → (W.setCell ⟨b, j, none⟩ x).heap[k]? = W.heap[k]? := fun W b j x h => Below.heap_setCell W ⟨b, j, none⟩ x k h
    rw [s _ _ _ _ (by omega), s _ _ _ _ (by omega), s _ _ _ _ (by omega), s _ _ _ _ (by omega), s _ _ _ _ (by omega), s _ _ _ _ (by omega), s _ _ _ _ (by omega), s _ _ _ _ (by omega), s _ _ _ _ (by omega)])) (fun _ _ => trivial))
  refine bodyPost_ret (v := T.v (.slice A1 T.js.length c1)) (by simp [results, Try.f17, go_sem, p0, p1, p2, p3, p4, p5, p6, p7]) rfl ⟨_, rfl, JR.of_R HJ.out, HBB.out⟩

end Go.Proofs.Ytkfjlkpickeobaa

/- Of the text LF2 only what this claim needs (shake.py, this repo's). -/
set_option linter.unusedVariables false
set_option linter.unusedSimpArgs false
namespace Go.Proofs.Ytkfjlkpickeobaa
open Go.RowKit
open Go.Proofs.YtkfjlkpickeobaaW.PrintWords (Kd Drawn0 Kept rd rdOf)
open Go.Proofs.Ytkfjlkpickeobaa.PLeafUrgent
set_option maxRecDepth 100000

theorem new_yes (p : Int) (w : World) (h : 0 ≤ p ∧ p ≤ 31) : Calls Try.prog 21 #[.int .i64 p] w fun e w' => ∃ v, e = .returned (.tuple #[Tk.v ⟨p, [], 0, 0, 0, 0, 0, 0⟩ v, .nilIface]) ∧ kJ.R 29 w' w.heap.size (fun _ => True) v [] ∧ Below w.heap.size w w' := by
  refine (task_New.calls p p [] 0 0 0 0 0 0 none w ?_).mono (fun e w' h => h)
  unfold task_New.f
  rw [is_f]
  simp [h.1, h.2]
theorem chg_b8 {w W : World} {b : Nat} (u0 u1 u2 u3 u4 u5 u6 u7 : Value) (h : Chg (fun k => k = b) w W) : Chg (fun k => k = b) w ((((((((W.setCell ⟨b, 0, none⟩ u0).setCell ⟨b, 1, none⟩ u1).setCell ⟨b, 2, none⟩ u2).setCell ⟨b, 3, none⟩ u3).setCell ⟨b, 4, none⟩ u4).setCell ⟨b, 5, none⟩ u5).setCell ⟨b, 6, none⟩ u6).setCell ⟨b, 7, none⟩ u7) :=
  (((((((h.setCell ⟨b, 0, none⟩ u0 rfl).setCell ⟨b, 1, none⟩ u1 rfl).setCell ⟨b, 2, none⟩ u2 rfl).setCell ⟨b, 3, none⟩ u3 rfl).setCell ⟨b, 4, none⟩ u4 rfl).setCell ⟨b, 5, none⟩ u5 rfl).setCell ⟨b, 6, none⟩ u6 rfl).setCell ⟨b, 7, none⟩ u7 rfl
theorem chain8' {W : World} {b : Nat} {ty : TypeId} {a0 a1 a2 a3 a4 a5 a6 a7 u0 u1 u2 u3 u4 u5 u6 u7 : Value} (h : W.heap[b]? = some (.cells #[a0, a1, a2, a3, a4, a5, a6, a7] ty (0, 0))) :
    (((((((((W.setCell ⟨b, 0, none⟩ u0).setCell ⟨b, 1, none⟩ u1).setCell ⟨b, 2, none⟩ u2).setCell ⟨b, 3, none⟩ u3).setCell ⟨b, 4, none⟩ u4).setCell ⟨b, 5, none⟩ u5).setCell ⟨b, 6, none⟩ u6).setCell ⟨b, 7, none⟩ u7)).heap[b]? = some (.cells #[u0, u1, u2, u3, u4, u5, u6, u7] ty (0, 0)) := by
  have e0 : ((W.setCell ⟨b, 0, none⟩ u0)).heap[b]? = some (.cells #[u0, a1, a2, a3, a4, a5, a6, a7] ty (0, 0)) := heap_setCell_same _ b 0 _ _ u0 h
  have e1 : (((W.setCell ⟨b, 0, none⟩ u0).setCell ⟨b, 1, none⟩ u1)).heap[b]? = some (.cells #[u0, u1, a2, a3, a4, a5, a6, a7] ty (0, 0)) := heap_setCell_same _ b 1 _ _ u1 e0
  have e2 : ((((W.setCell ⟨b, 0, none⟩ u0).setCell ⟨b, 1, none⟩ u1).setCell ⟨b, 2, none⟩ u2)).heap[b]? = some (.cells #[u0, u1, u2, a3, a4, a5, a6, a7] ty (0, 0)) := heap_setCell_same _ b 2 _ _ u2 e1
  have e3 : (((((W.setCell ⟨b, 0, none⟩ u0).setCell ⟨b, 1, none⟩ u1).setCell ⟨b, 2, none⟩ u2).setCell ⟨b, 3, none⟩ u3)).heap[b]? = some (.cells #[u0, u1, u2, u3, a4, a5, a6, a7] ty (0, 0)) := heap_setCell_same _ b 3 _ _ u3 e2
  have e4 : ((((((W.setCell ⟨b, 0, none⟩ u0).setCell ⟨b, 1, none⟩ u1).setCell ⟨b, 2, none⟩ u2).setCell ⟨b, 3, none⟩ u3).setCell ⟨b, 4, none⟩ u4)).heap[b]? = some (.cells #[u0, u1, u2, u3, u4, a5, a6, a7] ty (0, 0)) := heap_setCell_same _ b 4 _ _ u4 e3
  have e5 : (((((((W.setCell ⟨b, 0, none⟩ u0).setCell ⟨b, 1, none⟩ u1).setCell ⟨b, 2, none⟩ u2).setCell ⟨b, 3, none⟩ u3).setCell ⟨b, 4, none⟩ u4).setCell ⟨b, 5, none⟩ u5)).heap[b]? = some (.cells #[u0, u1, u2, u3, u4, u5, a6, a7] ty (0, 0)) := heap_setCell_same _ b 5 _ _ u5 e4
  have e6 : ((((((((W.setCell ⟨b, 0, none⟩ u0).setCell ⟨b, 1, none⟩ u1).setCell ⟨b, 2, none⟩ u2).setCell ⟨b, 3, none⟩ u3).setCell ⟨b, 4, none⟩ u4).setCell ⟨b, 5, none⟩ u5).setCell ⟨b, 6, none⟩ u6)).heap[b]? = some (.cells #[u0, u1, u2, u3, u4, u5, u6, a7] ty (0, 0)) := heap_setCell_same _ b 6 _ _ u6 e5
  have e7 : (((((((((W.setCell ⟨b, 0, none⟩ u0).setCell ⟨b, 1, none⟩ u1).setCell ⟨b, 2, none⟩ u2).setCell ⟨b, 3, none⟩ u3).setCell ⟨b, 4, none⟩ u4).setCell ⟨b, 5, none⟩ u5).setCell ⟨b, 6, none⟩ u6).setCell ⟨b, 7, none⟩ u7)).heap[b]? = some (.cells #[u0, u1, u2, u3, u4, u5, u6, u7] ty (0, 0)) := heap_setCell_same _ b 7 _ _ u7 e6
  exact e7
/-- A block that holds a task: what is read, what may be written. -/
theorem blk8b {w2 : World} {b : Nat} {a0 a1 a2 a3 a4 a5 a6 a7 : Value} {ty : TypeId} (h : w2.heap[b]? = some (.cells #[a0, a1, a2, a3, a4, a5, a6, a7] ty (0, 0))) {w3 : World} (hb : Below w2.heap.size w2 w3) : w3.heap[b]? = some (.cells #[a0, a1, a2, a3, a4, a5, a6, a7] ty (0, 0)) := (hb.block b (Array.getElem?_eq_some_iff.1 h).1).trans h
/-- The result in its box: a table's task with jobs of its own. -/
theorem JR.box {W : World} {v : Value} {js : List Jb} (h : JR W v js) {b : Nat} {cs : Array Value} {fr : Nat × Nat} (hb : W.heap[b]? = some (.cells cs 36 fr)) (u0 u1 u2 u3 u4 u5 u6 u7 : Value) : JR ((((((((W.setCell ⟨b, 0, none⟩ u0).setCell ⟨b, 1, none⟩ u1).setCell ⟨b, 2, none⟩ u2).setCell ⟨b, 3, none⟩ u3).setCell ⟨b, 4, none⟩ u4).setCell ⟨b, 5, none⟩ u5).setCell ⟨b, 6, none⟩ u6).setCell ⟨b, 7, none⟩ u7) v js :=
  h.chg (chg_b8 u0 u1 u2 u3 u4 u5 u6 u7 (Chg.refl _ W)) (fun k cs' fr' hk e => by
    subst e
    rw [hb] at hk
    simp at hk)

set_option maxHeartbeats 1000000 in
theorem ltask_hit (p t g cap i : Nat) (h : Int) (xs : List Sk) (x : Sk) (w : World) (H : LF w p t g cap xs) (ha : SAt 2 h xs i x) (hl : x.T.js.length * 32 ≤ 140737488351232) :
    Calls Try.prog 6 #[.pointer (some ⟨p, 0, none⟩), .int .i64 h] w fun e w' => ∃ v, e = .returned (.tuple #[x.T.v v, .nilIface]) ∧ JR w' v x.T.js ∧ Below w.heap.size w w' := by
  obtain ⟨B, d, hv⟩ := (H.tt.jr i x ha.1).slice
  have hj := H.tt.jr i x ha.1
  rw [hv] at hj
  obtain ⟨W0, hW0⟩ : ∃ W, W = w.alloc (.cells #[.int .i64 0, .slice none 0 0, .int .i64 0, .int .i64 0, .int .i64 0, .int .i64 0, .int .i64 0, .int .i64 0] 36) := ⟨_, rfl⟩
  have hB0 : Below w.heap.size w W0 := by rw [hW0]; exact (Below.refl _ w).alloc (Nat.le_refl _) _
  have hk0 : W0.heap[w.heap.size]? = some (.cells #[.int .i64 0, .slice none 0 0, .int .i64 0, .int .i64 0, .int .i64 0, .int .i64 0, .int .i64 0, .int .i64 0] 36 (0, 0)) := by rw [hW0]; exact heap_alloc_new w _
  have H0 := H.below hB0
  have G := tget_hit t g 8 cap i 2 h xs x W0 H0.tt H0.tm ha
  rw [hv] at G
  have HG := Lib.hid G
  have HT := Lib.hid (ltab_ok p t g cap xs W0 H0)
  have HJ := Lib.hid (hj.below hB0)
  have HB0 := Lib.hid hB0
  have HK0 := Lib.hid hk0
  have HW0 := Lib.hid hW0
  have HL := Lib.hid hl
  clear H ha hv hj hW0 hB0 hk0 H0 G hl
  go_enter Try.func6, Try.ntmps6
  go_wp2_with fail
  rw [← HW0.out]
  refine HT.out.mono ?_
  rintro e w_ ⟨rfl, rfl⟩
  go_wp2_with fail
  refine HG.out.mono ?_
  rintro e w1 ⟨rfl, hb⟩
  obtain ⟨W2, hW2⟩ : ∃ W, W = w1.alloc (.cells #[.int .i64 x.T.p, .slice B x.T.js.length d, .int .i64 x.T.g, .int .i64 x.T.o, .int .i64 x.T.l, .int .i64 x.T.d, .int .i64 x.T.c, .int .i64 x.T.t] 36) := ⟨_, rfl⟩
  have hb2 : Below W0.heap.size W0 W2 := by rw [hW2]; exact below_alloc hb (Nat.le_refl _) _
  have HB2 := Lib.hid hb2
  have HJ2 := Lib.hid (HJ.out.below hb2)
  have HW2 := Lib.hid hW2
  clear hb hW2 hb2
  go_wp2_with fail
  rw [← HW2.out]
  refine (lown_ok x.T (.slice B x.T.js.length d) W2 HJ2.out.tr HL.out).mono ?_
  rintro e w3 ⟨v, rfl, hj3, hb3⟩
  obtain ⟨A3, c3, rfl⟩ := hj3.slice
  have hk3 := blk8b (blk8b HK0.out HB2.out) hb3
  obtain ⟨⟨q0, q1, q2, q3, q4, q5, q6, q7⟩, m0, m1, m2, m3, m4, m5, m6, m7⟩ := blk8 hk3
  have hb4 : Below w.heap.size w w3 := below_call (below_call HB0.out (Nat.le_refl _) HB2.out) (Nat.le_refl _) hb3
  have HB5 := Lib.hid (below_set8 hb4 (b := w.heap.size) (Nat.le_refl _) (.int .i64 x.T.p) (.slice A3 x.T.js.length c3) (.int .i64 x.T.g) (.int .i64 x.T.o) (.int .i64 x.T.l) (.int .i64 x.T.d) (.int .i64 x.T.c) (.int .i64 x.T.t))
  have HJ5 := Lib.hid (hj3.box hk3 (.int .i64 x.T.p) (.slice A3 x.T.js.length c3) (.int .i64 x.T.g) (.int .i64 x.T.o) (.int .i64 x.T.l) (.int .i64 x.T.d) (.int .i64 x.T.c) (.int .i64 x.T.t))
  clear hj3 hb3 hk3 hb4
  go_wp2
  refine bodyPost_ret (v := .tuple #[x.T.v (.slice A3 x.T.js.length c3), .nilIface]) ?_ rfl ?_
  · simp [results, Try.f6, go_sem, q0, q1, q2, q3, q4, q5, q6, q7]
  · refine ⟨.slice A3 x.T.js.length c3, rfl, ?_, ?_⟩
    · with_reducible exact HJ5.out
    · with_reducible exact HB5.out

set_option maxHeartbeats 1000000 in
theorem ltask_miss (p t g cap : Nat) (h : Int) (xs : List Sk) (w : World) (H : LF w p t g cap xs) (ha : SNo 2 h xs) :
    Calls Try.prog 6 #[.pointer (some ⟨p, 0, none⟩), .int .i64 h] w fun e w' => e = .returned (.tuple #[zT.v nilS, .iface 68 (.int .i64 20)]) ∧ Below w.heap.size w w' := by
  obtain ⟨W0, hW0⟩ : ∃ W, W = w.alloc (.cells #[.int .i64 0, .slice none 0 0, .int .i64 0, .int .i64 0, .int .i64 0, .int .i64 0, .int .i64 0, .int .i64 0] 36) := ⟨_, rfl⟩
  have hB0 : Below w.heap.size w W0 := by rw [hW0]; exact (Below.refl _ w).alloc (Nat.le_refl _) _
  have hk0 : W0.heap[w.heap.size]? = some (.cells #[.int .i64 0, .slice none 0 0, .int .i64 0, .int .i64 0, .int .i64 0, .int .i64 0, .int .i64 0, .int .i64 0] 36 (0, 0)) := by rw [hW0]; exact heap_alloc_new w _
  have H0 := H.below hB0
  have HG := Lib.hid (tget_miss t g 8 cap 2 h xs W0 H0.tt H0.tm ha)
  have HT := Lib.hid (ltab_ok p t g cap xs W0 H0)
  have HB0 := Lib.hid hB0
  have HK0 := Lib.hid hk0
  have HW0 := Lib.hid hW0
  clear H ha hW0 hB0 hk0 H0
  go_enter Try.func6, Try.ntmps6
  go_wp2_with fail
  rw [← HW0.out]
  refine HT.out.mono ?_
  rintro e w_ ⟨rfl, rfl⟩
  go_wp2_with fail
  refine HG.out.mono ?_
  rintro e w1 ⟨rfl, hb⟩
  have lb : w.heap.size < w1.heap.size := (Array.getElem?_eq_some_iff.1 (blk8b HK0.out hb)).1
  obtain ⟨⟨q0, q1, q2, q3, q4, q5, q6, q7⟩, m0, m1, m2, m3, m4, m5, m6, m7⟩ := blk8 (blk8b HK0.out hb)
  have hb4 : Below w.heap.size w w1 := below_call HB0.out (Nat.le_refl _) hb
  have HB5 := Lib.hid (below_alloc (below_set8 hb4 (b := w.heap.size) (Nat.le_refl _) (.int .i64 0) (.slice none 0 0) (.int .i64 0) (.int .i64 0) (.int .i64 0) (.int .i64 0) (.int .i64 0) (.int .i64 0)) (by simp <;> omega) (.cells #[.int .i64 0, .slice none 0 0, .int .i64 0, .int .i64 0, .int .i64 0, .int .i64 0, .int .i64 0, .int .i64 0] 36))
  clear hb hb4
  go_wp2
  refine bodyPost_ret (v := .tuple #[zT.v nilS, .iface 68 (.int .i64 20)]) ?_ rfl ⟨rfl, ?_⟩
  · simp [results, Try.f6, go_sem, q0, q1, q2, q3, q4, q5, q6, q7, lb]
  · with_reducible exact HB5.out

end Go.Proofs.Ytkfjlkpickeobaa

/- Of the text LF3 only what this claim needs (shake.py, this repo's). -/
set_option linter.unusedVariables false
set_option linter.unusedSimpArgs false
namespace Go.Proofs.Ytkfjlkpickeobaa
open Go.RowKit
open Go.Proofs.YtkfjlkpickeobaaW.PrintWords (Kd Drawn0 Kept rd rdOf)
open Go.Proofs.Ytkfjlkpickeobaa.PLeafUrgent
set_option maxRecDepth 100000

/-- What is taken from the leaf's table: the first slot that may be given. -/
theorem ladd_hit (p t g cap i : Nat) (prio : Int) (xs : List Sk) (x : Sk) (w : World) (H : LF w p t g cap xs) (hp : 0 ≤ prio ∧ prio ≤ 31) (hx : xs[i]? = some x) (hf : FreeSk x) (ha : ∀ (j : Nat) (y : Sk), j < i → xs[j]? = some y → ¬ FreeSk y) :
    Calls Try.prog 9 #[.pointer (some ⟨p, 0, none⟩), .int .i64 prio] w fun e w' => ∃ v, e = .returned (.tuple #[.int .i64 (mk 2 i x.f0), .nilIface]) ∧ LF w' p t g cap (xs.set i ⟨x.f0, true, v, ⟨prio, [], 0, 0, 0, 0, 0, 0⟩⟩) ∧ Chg (fun k => k = g) w w' := by
  have HN := Lib.hid (new_yes prio w hp)
  have HH := Lib.hid H
  have HX := Lib.hid hx
  have HF := Lib.hid hf
  have HA := Lib.hid ha
  clear H hp hx hf ha
  go_enter Try.func9, Try.ntmps9
  go_wp2_with fail
  refine HN.out.mono ?_
  rintro e w1 ⟨v, rfl, hR, hb⟩
  obtain ⟨A0, c0, rfl⟩ := Kd.R_slice hR
  obtain ⟨W2, hW2⟩ : ∃ W, W = w1.alloc (.cells #[.int .i64 prio, .slice A0 0 c0, .int .i64 0, .int .i64 0, .int .i64 0, .int .i64 0, .int .i64 0, .int .i64 0] 36) := ⟨_, rfl⟩
  have hb2 : Below w.heap.size w W2 := by rw [hW2]; exact below_alloc hb (Nat.le_refl _) _
  have hk2 : W2.heap[w1.heap.size]? = some (.cells #[.int .i64 prio, .slice A0 0 c0, .int .i64 0, .int .i64 0, .int .i64 0, .int .i64 0, .int .i64 0, .int .i64 0] 36 (0, 0)) := by rw [hW2]; exact heap_alloc_new w1 _
  have hj2 : JR W2 (.slice A0 ([] : List Jb).length c0) [] := by rw [hW2]; exact (JR.of_R hR).below ((Below.refl _ w1).alloc (Nat.le_refl _) _)
  have hs2 : w1.heap.size < W2.heap.size := (Array.getElem?_eq_some_iff.1 hk2).1
  have HB2 := Lib.hid hb2
  have HK2 := Lib.hid hk2
  have HJ2 := Lib.hid hj2
  have H2 := Lib.hid (HH.out.below hb2)
  have HW2 := Lib.hid hW2
  obtain ⟨b6, hb6⟩ : ∃ b, b = w1.heap.size := ⟨_, rfl⟩
  have Hb6 := Lib.hid hb6
  rw [← hb6] at hk2 hs2
  obtain ⟨⟨q0, q1, q2, q3, q4, q5, q6, q7⟩, -⟩ := blk8 hk2
  have HT := Lib.hid (fun W (hB : Below W2.heap.size W2 W) => ltab_ok p t g cap xs W (H2.out.below hB))
  have HAD := Lib.hid (fun W (hB : Below W2.heap.size W2 W) => tadd_hit t g 8 cap i 2 (.slice A0 ([] : List Jb).length c0) ⟨prio, [], 0, 0, 0, 0, 0, 0⟩ xs x W (H2.out.below hB).tt (H2.out.below hB).tm HX.out HF.out (HJ2.out.below hB) (Nat.zero_le _) HA.out)
  clear hR hb hb2 hk2 hj2 hW2 hb6
  go_wp2_with fail
  rw [← HW2.out, ← Hb6.out]
  first | go_loud (go_region_law (first
    | (go_simp; go_at_call 14; refine (HT.out _ (by first | exact Below.refl _ _ | exact below_drewN' (Below.refl _ _) 1)).mono ?_; rintro e w_ ⟨rfl, rfl⟩)
    | (go_simp; go_at_call 22; refine (HAD.out _ (by first | exact Below.refl _ _ | exact below_drewN' (Below.refl _ _) 1)).mono ?_; rintro e w3 ⟨rfl, hT3, hC3⟩; have HT3 := Lib.hid hT3; have HC3 := Lib.hid ((Chg.ofBelow HB2.out (fun k => k = g)).trans (Chg.trans (by first | exact Chg.refl _ _ | exact Chg.drewN (Chg.refl _ _) 1) hC3)); clear hT3 hC3))) | fail
  all_goals
    go_wp2
    go_ret2
    refine ⟨_, rfl, HH.out.put HC3.out HT3.out (HH.out.tm.set i _ (HH.out.tm.gen i _ HX.out).1 (HH.out.tm.gen i _ HX.out).2 (fun _ => HF.out.2) (Nat.zero_le _)), HC3.out⟩

theorem ladd_full (p t g cap : Nat) (prio : Int) (xs : List Sk) (w : World) (H : LF w p t g cap xs) (hp : 0 ≤ prio ∧ prio ≤ 31) (ha : ∀ (j : Nat) (y : Sk), xs[j]? = some y → ¬ FreeSk y) :
    Calls Try.prog 9 #[.pointer (some ⟨p, 0, none⟩), .int .i64 prio] w fun e w' => e = .returned (.tuple #[.int .i64 0, .iface 68 (.int .i64 30)]) ∧ Below w.heap.size w w' := by
  have HN := Lib.hid (new_yes prio w hp)
  have HH := Lib.hid H
  have HA := Lib.hid ha
  clear H hp ha
  go_enter Try.func9, Try.ntmps9
  go_wp2_with fail
  refine HN.out.mono ?_
  rintro e w1 ⟨v, rfl, hR, hb⟩
  obtain ⟨A0, c0, rfl⟩ := Kd.R_slice hR
  obtain ⟨W2, hW2⟩ : ∃ W, W = w1.alloc (.cells #[.int .i64 prio, .slice A0 0 c0, .int .i64 0, .int .i64 0, .int .i64 0, .int .i64 0, .int .i64 0, .int .i64 0] 36) := ⟨_, rfl⟩
  have hb2 : Below w.heap.size w W2 := by rw [hW2]; exact below_alloc hb (Nat.le_refl _) _
  have hk2 : W2.heap[w1.heap.size]? = some (.cells #[.int .i64 prio, .slice A0 0 c0, .int .i64 0, .int .i64 0, .int .i64 0, .int .i64 0, .int .i64 0, .int .i64 0] 36 (0, 0)) := by rw [hW2]; exact heap_alloc_new w1 _
  have hj2 : JR W2 (.slice A0 ([] : List Jb).length c0) [] := by rw [hW2]; exact (JR.of_R hR).below ((Below.refl _ w1).alloc (Nat.le_refl _) _)
  have hs2 : w1.heap.size < W2.heap.size := (Array.getElem?_eq_some_iff.1 hk2).1
  have HB2 := Lib.hid hb2
  have HK2 := Lib.hid hk2
  have HJ2 := Lib.hid hj2
  have H2 := Lib.hid (HH.out.below hb2)
  have HW2 := Lib.hid hW2
  obtain ⟨b6, hb6⟩ : ∃ b, b = w1.heap.size := ⟨_, rfl⟩
  have Hb6 := Lib.hid hb6
  rw [← hb6] at hk2 hs2
  obtain ⟨⟨q0, q1, q2, q3, q4, q5, q6, q7⟩, -⟩ := blk8 hk2
  have HT := Lib.hid (fun W (hB : Below W2.heap.size W2 W) => ltab_ok p t g cap xs W (H2.out.below hB))
  have HAD := Lib.hid (fun W (hB : Below W2.heap.size W2 W) => tadd_full t g 8 cap 2 ⟨prio, [], 0, 0, 0, 0, 0, 0⟩ xs W (H2.out.below hB).tt (H2.out.below hB).tm A0 c0 HA.out)
  clear hR hb hb2 hk2 hj2 hW2 hb6
  go_wp2_with fail
  rw [← HW2.out, ← Hb6.out]
  first | go_loud (go_region_law (first
    | (go_simp; go_at_call 14; refine (HT.out _ (by first | exact Below.refl _ _ | exact below_drewN' (Below.refl _ _) 1)).mono ?_; rintro e w_ ⟨rfl, rfl⟩)
    | (go_simp; go_at_call 22; refine (HAD.out _ (by first | exact Below.refl _ _ | exact below_drewN' (Below.refl _ _) 1)).mono ?_; rintro e w3 ⟨rfl, hb3⟩; have HB3 := Lib.hid (below_call (B := w.heap.size) (by first | exact HB2.out | exact below_drewN' HB2.out 1) (Nat.le_refl _) hb3); clear hb3))) | fail
  all_goals
    go_wp2
    go_ret2
    exact ⟨rfl, HB3.out⟩

end Go.Proofs.Ytkfjlkpickeobaa

/- Of the text LF4 only what this claim needs (shake.py, this repo's). -/
set_option linter.unusedVariables false
set_option linter.unusedSimpArgs false
namespace Go.Proofs.Ytkfjlkpickeobaa
open Go.RowKit
open Go.Proofs.YtkfjlkpickeobaaW.PrintWords (Kd Drawn0 Kept rd rdOf)
open Go.Proofs.Ytkfjlkpickeobaa.PLeafUrgent
set_option maxRecDepth 100000

theorem acc6 {w2 : World} {b : Nat} {a0 a1 a2 a3 a4 a5 : Value} {ty : TypeId} (h : w2.heap[b]? = some (.cells #[a0, a1, a2, a3, a4, a5] ty (0, 0))) :
    (w2.cell? ⟨b, 0, none⟩ = some a0 ∧ w2.cell? ⟨b, 1, none⟩ = some a1 ∧ w2.cell? ⟨b, 2, none⟩ = some a2 ∧ w2.cell? ⟨b, 3, none⟩ = some a3 ∧ w2.cell? ⟨b, 4, none⟩ = some a4 ∧ w2.cell? ⟨b, 5, none⟩ = some a5) ∧
    (w2.frozen? ⟨b, 0, none⟩ = false ∧ w2.frozen? ⟨b, 1, none⟩ = false ∧ w2.frozen? ⟨b, 2, none⟩ = false ∧ w2.frozen? ⟨b, 3, none⟩ = false ∧ w2.frozen? ⟨b, 4, none⟩ = false ∧ w2.frozen? ⟨b, 5, none⟩ = false) := by
  refine ⟨⟨?_, ?_, ?_, ?_, ?_, ?_⟩, ?_, ?_, ?_, ?_, ?_, ?_⟩ <;> simp [World.cell?, World.frozen?, h]
/-- A task's account. -/
abbrev Tk.acc (T : Tk) : Value := .agg #[.int .i64 T.g, .int .i64 T.o, .int .i64 T.l, .int .i64 T.d, .int .i64 T.c, .int .i64 T.t]
theorem blk8b' {w2 w3 : World} {b : Nat} {o : Obj} (h : w2.heap[b]? = some o) (hb : Below w2.heap.size w2 w3) : w3.heap[b]? = some o := (hb.block b (Array.getElem?_eq_some_iff.1 h).1).trans h

theorem Chg.new {S : Nat → Prop} {a b : World} (h : Chg S a b) {p : Addr} (hp : a.heap.size ≤ p.block) (v : Value) : Chg S a (b.setCell p v) :=
  ⟨h.os, h.tape, h.output, by simpa using h.size, fun k hk hn => (Below.heap_setCell b p v k (by omega)).trans (h.block k hk hn)⟩
theorem LF.chg {w w' : World} {p t g cap : Nat} {xs : List Sk} (h : LF w p t g cap xs) {S : Nat → Prop} (hc : Chg S w w') (h0 : ¬ S p) (h1 : ¬ S t) (h2 : ¬ S g) (hS : ∀ (k : Nat) (cs : Array Value) (fr : Nat × Nat), w.heap[k]? = some (.cells cs 29 fr) → ¬ S k) : LF w' p t g cap xs :=
  ⟨hc.heap h.blk h0, h.tt.chg hc h1 h2 hS, h.tm⟩
theorem chg6 {S : Nat → Prop} {w W : World} {b : Nat} (hb : S b) (u0 u1 u2 u3 u4 u5 : Value) (h : Chg S w W) : Chg S w ((((((W.setCell ⟨b, 0, none⟩ u0).setCell ⟨b, 1, none⟩ u1).setCell ⟨b, 2, none⟩ u2).setCell ⟨b, 3, none⟩ u3).setCell ⟨b, 4, none⟩ u4).setCell ⟨b, 5, none⟩ u5) :=
  (((((h.setCell ⟨b, 0, none⟩ u0 hb).setCell ⟨b, 1, none⟩ u1 hb).setCell ⟨b, 2, none⟩ u2 hb).setCell ⟨b, 3, none⟩ u3 hb).setCell ⟨b, 4, none⟩ u4 hb).setCell ⟨b, 5, none⟩ u5 hb
theorem new6 {S : Nat → Prop} {w W : World} {b : Nat} (hb : w.heap.size ≤ b) (u0 u1 u2 u3 u4 u5 : Value) (h : Chg S w W) : Chg S w ((((((W.setCell ⟨b, 0, none⟩ u0).setCell ⟨b, 1, none⟩ u1).setCell ⟨b, 2, none⟩ u2).setCell ⟨b, 3, none⟩ u3).setCell ⟨b, 4, none⟩ u4).setCell ⟨b, 5, none⟩ u5) :=
  (((((h.new (p := ⟨b, 0, none⟩) hb u0).new (p := ⟨b, 1, none⟩) hb u1).new (p := ⟨b, 2, none⟩) hb u2).new (p := ⟨b, 3, none⟩) hb u3).new (p := ⟨b, 4, none⟩) hb u4).new (p := ⟨b, 5, none⟩) hb u5

set_option maxHeartbeats 1000000 in
theorem ldrop_hit (p t g cap i : Nat) (h : Int) (xs : List Sk) (x : Sk) (w : World) (H : LF w p t g cap xs) (ha : SAt 2 h xs i x) :
    Calls Try.prog 10 #[.pointer (some ⟨p, 0, none⟩), .int .i64 h] w fun e w' => e = .returned (.tuple #[x.T.acc, .nilIface]) ∧ LF w' p t g cap (xs.set i (noSk (x.f0 + 1))) ∧ Chg (fun k => k = g) w w' := by
  obtain ⟨B, d, hv⟩ := (H.tt.jr i x ha.1).slice
  obtain ⟨W0, hW0⟩ : ∃ W, W = w.alloc (.cells #[.int .i64 0, .int .i64 0, .int .i64 0, .int .i64 0, .int .i64 0, .int .i64 0] 34) := ⟨_, rfl⟩
  have hB0 : Below w.heap.size w W0 := by rw [hW0]; exact (Below.refl _ w).alloc (Nat.le_refl _) _
  have hk0 : W0.heap[w.heap.size]? = some (.cells #[.int .i64 0, .int .i64 0, .int .i64 0, .int .i64 0, .int .i64 0, .int .i64 0] 34 (0, 0)) := by rw [hW0]; exact heap_alloc_new w _
  have H0 := H.below hB0
  have G := tget_hit t g 8 cap i 2 h xs x W0 H0.tt H0.tm ha
  rw [hv] at G
  have HG := Lib.hid G
  have HT := Lib.hid (fun W (hB : Below W0.heap.size W0 W) => ltab_ok p t g cap xs W (H0.below hB))
  have HDR := Lib.hid (fun W (hB : Below W0.heap.size W0 W) => tdrop_hit t g 8 cap i 2 h xs x W (H0.below hB).tt (H0.below hB).tm ha)
  have HH := Lib.hid H
  have HA := Lib.hid ha
  have HB0 := Lib.hid hB0
  have HK0 := Lib.hid hk0
  have HW0 := Lib.hid hW0
  have HGL := Lib.hid H.tt.ltg
  clear H ha hv hW0 hB0 hk0 H0 G
  go_enter Try.func10, Try.ntmps10
  go_wp2_with fail
  rw [← HW0.out]
  refine (HT.out W0 (Below.refl _ _)).mono ?_
  rintro e w_ ⟨rfl, rfl⟩
  go_wp2_with fail
  refine HG.out.mono ?_
  rintro e w1 ⟨rfl, hb⟩
  obtain ⟨W2, hW2⟩ : ∃ W, W = w1.alloc (.cells #[.int .i64 x.T.p, .slice B x.T.js.length d, .int .i64 x.T.g, .int .i64 x.T.o, .int .i64 x.T.l, .int .i64 x.T.d, .int .i64 x.T.c, .int .i64 x.T.t] 36) := ⟨_, rfl⟩
  have hb2 : Below W0.heap.size W0 W2 := by rw [hW2]; exact below_alloc hb (Nat.le_refl _) _
  obtain ⟨b6, hb6⟩ : ∃ b, b = w1.heap.size := ⟨_, rfl⟩
  have hk6 : W2.heap[b6]? = some (.cells #[.int .i64 x.T.p, .slice B x.T.js.length d, .int .i64 x.T.g, .int .i64 x.T.o, .int .i64 x.T.l, .int .i64 x.T.d, .int .i64 x.T.c, .int .i64 x.T.t] 36 (0, 0)) := by rw [hW2, hb6]; exact heap_alloc_new w1 _
  have h60 : w.heap.size < b6 := by rw [hb6]; exact (Array.getElem?_eq_some_iff.1 (blk8b' HK0.out hb)).1
  have hk4 := blk8b' (blk8b' HK0.out hb) ((Below.refl _ w1).alloc (Nat.le_refl _) (.cells #[.int .i64 x.T.p, .slice B x.T.js.length d, .int .i64 x.T.g, .int .i64 x.T.o, .int .i64 x.T.l, .int .i64 x.T.d, .int .i64 x.T.c, .int .i64 x.T.t] 36))
  rw [← hW2] at hk4
  have HB2 := Lib.hid hb2
  have HW2 := Lib.hid hW2
  have Hb6 := Lib.hid hb6
  have HK6 := Lib.hid hk6
  have HK4 := Lib.hid hk4
  have l6 := (Array.getElem?_eq_some_iff.1 hk6).1
  have l4 := (Array.getElem?_eq_some_iff.1 hk4).1
  obtain ⟨⟨q0, q1, q2, q3, q4, q5, q6, q7⟩, -⟩ := blk8 hk6
  have hg4 : g ≠ w.heap.size := Nat.ne_of_lt HGL.out
  have hg6 : g ≠ b6 := Nat.ne_of_lt (Nat.lt_trans HGL.out h60)
  clear hb hb2 hW2 hb6 hk6 hk4
  go_wp2_with fail
  rw [← HW2.out, ← Hb6.out]
  first | go_loud (go_region_law (first
    | (go_simp; go_at_call 14; refine (HT.out _ (by first | exact HB2.out | exact below_drewN' HB2.out 1)).mono ?_; rintro e w_ ⟨rfl, rfl⟩)
    | (go_simp; go_at_call 23; refine (HDR.out _ (by first | exact HB2.out | exact below_drewN' HB2.out 1)).mono ?_; rintro e w3 ⟨rfl, hT3, hC3⟩; have HT3 := Lib.hid hT3; have HC3 := Lib.hid hC3; have hk46 := hC3.heap (k := w.heap.size) (by first | exact HK4.out | (show W2.heap[_]? = _; exact HK4.out)) (fun e => hg4 e.symm); have hk66 := hC3.heap (k := b6) (by first | exact HK6.out | (show W2.heap[_]? = _; exact HK6.out)) (fun e => hg6 e.symm); have HK46 := Lib.hid hk46; obtain ⟨⟨y0, y1, y2, y3, y4, y5, y6, y7⟩, -⟩ := blk8 hk66; obtain ⟨⟨z0, z1, z2, z3, z4, z5⟩, r0, r1, r2, r3, r4, r5⟩ := acc6 hk46; clear hT3 hC3 hk46 hk66))) | fail
  all_goals
    have hl0 := HH.out.lt
    have hl1 := HH.out.tt.lt
    have C3 : Chg (fun k => k = g) w w3 := (Chg.ofBelow HB0.out _).trans ((Chg.ofBelow HB2.out _).trans (Chg.trans (by first | exact Chg.refl _ _ | exact Chg.drewN (Chg.refl _ _) 1) HC3.out))
    have hn := HH.out.tm.set i (noSk (x.f0 + 1)) (by have := (HH.out.tm.gen i x HA.out.1).1; show 1 ≤ x.f0 + 1; omega) (by have := HH.out.tm.top i x HA.out.1 HA.out.2.1; show x.f0 + 1 ≤ 1024; omega) (fun h => by simp at h) (Nat.zero_le _)
    have L3 : LF w3 p t g cap (xs.set i (noSk (x.f0 + 1))) := HH.out.put C3 HT3.out hn
    have L4 := Lib.hid (L3.chg (chg6 (S := fun k => k = w.heap.size) rfl (.int .i64 x.T.g) (.int .i64 x.T.o) (.int .i64 x.T.l) (.int .i64 x.T.d) (.int .i64 x.T.c) (.int .i64 x.T.t) (Chg.refl _ w3)) (by omega) (by omega) hg4 (fun k cs fr hk e => by subst e; rw [HK46.out] at hk; simp at hk))
    have C4 := Lib.hid (new6 (Nat.le_refl w.heap.size) (.int .i64 x.T.g) (.int .i64 x.T.o) (.int .i64 x.T.l) (.int .i64 x.T.d) (.int .i64 x.T.c) (.int .i64 x.T.t) C3)
    clear C3 L3 hn hl0 hl1
    go_wp2
    refine bodyPost_ret (v := .tuple #[x.T.acc, .nilIface]) ?_ rfl ⟨rfl, ?_, ?_⟩
    · simp [results, Try.f10, go_sem, z0, z1, z2, z3, z4, z5]
    · with_reducible exact L4.out
    · with_reducible exact C4.out

end Go.Proofs.Ytkfjlkpickeobaa

/- Of the text LF5 only what this claim needs (shake.py, this repo's). -/
set_option linter.unusedVariables false
set_option linter.unusedSimpArgs false
namespace Go.Proofs.Ytkfjlkpickeobaa
open Go.RowKit
open Go.Proofs.YtkfjlkpickeobaaW.PrintWords (Kd Drawn0 Kept rd rdOf)
open Go.Proofs.Ytkfjlkpickeobaa.PLeafUrgent
set_option maxRecDepth 100000

theorem job4 {w2 : World} {b : Nat} {a0 a1 a2 a3 : Value} {ty : TypeId} (h : w2.heap[b]? = some (.cells #[a0, a1, a2, a3] ty (0, 0))) :
    w2.cell? ⟨b, 0, none⟩ = some a0 ∧ w2.cell? ⟨b, 1, none⟩ = some a1 ∧ w2.cell? ⟨b, 2, none⟩ = some a2 ∧ w2.cell? ⟨b, 3, none⟩ = some a3 := by
  refine ⟨?_, ?_, ?_, ?_⟩ <;> simp [World.cell?, h]
set_option maxHeartbeats 1000000 in
theorem lpush_err (p t g cap i : Nat) (h now E : Int) (y : Jb) (xs : List Sk) (x : Sk) (T1 : Tk) (w : World) (H : LF w p t g cap xs) (ha : SAt 2 h xs i x) (hp : pushF x.T y now = (T1, E)) (hE : E ≠ 0) :
    Calls Try.prog 11 #[.pointer (some ⟨p, 0, none⟩), .int .i64 h, jv y, .int .i64 now] w fun e w' => e = .returned (.iface 68 (.int .i64 E)) ∧ Below w.heap.size w w' := by
  obtain ⟨B, d, hv⟩ := (H.tt.jr i x ha.1).slice
  have hj := H.tt.jr i x ha.1
  rw [hv] at hj
  have hjl := H.tm.js i x ha.1
  have hjl1 : T1.js.length ≤ 8 := by have := pushF_js x.T y now; rw [hp] at this; exact this
  obtain ⟨W0, hW0⟩ : ∃ W, W = w.alloc (.cells #[.int .i64 y.f0, .int .i64 y.f1, .int .i64 y.f2, .int .i64 y.f3] 29) := ⟨_, rfl⟩
  have hB0 : Below w.heap.size w W0 := by rw [hW0]; exact (Below.refl _ w).alloc (Nat.le_refl _) _
  have hk0 : W0.heap[w.heap.size]? = some (.cells #[.int .i64 y.f0, .int .i64 y.f1, .int .i64 y.f2, .int .i64 y.f3] 29 (0, 0)) := by rw [hW0]; exact heap_alloc_new w _
  have H0 := H.below hB0
  have HT := Lib.hid (fun W (hB : Below W0.heap.size W0 W) => ltab_ok p t g cap xs W (H0.below hB))
  have G := tget_hit t g 8 cap i 2 h xs x W0 H0.tt H0.tm ha
  rw [hv] at G
  have HG := Lib.hid G
  have HJ := Lib.hid (hj.below hB0)
  have HP := Lib.hid hp
  have HJL := Lib.hid hjl
  have HJL1 := Lib.hid hjl1
  have HH := Lib.hid H
  have HA := Lib.hid ha
  have HB0 := Lib.hid hB0
  have HK0 := Lib.hid hk0
  have HW0 := Lib.hid hW0
  clear H ha hv hj hjl hjl1 hp hW0 hB0 hk0 H0 G
  have HE := Lib.hid hE
  clear hE
  go_enter Try.func11, Try.ntmps11
  go_wp2_with fail
  rw [← HW0.out]
  refine (HT.out W0 (Below.refl _ _)).mono ?_
  rintro e w_ ⟨rfl, rfl⟩
  go_wp2_with fail
  refine HG.out.mono ?_
  rintro e w1 ⟨rfl, hb⟩
  obtain ⟨W2, hW2⟩ : ∃ W, W = w1.alloc (.cells #[.int .i64 x.T.p, .slice B x.T.js.length d, .int .i64 x.T.g, .int .i64 x.T.o, .int .i64 x.T.l, .int .i64 x.T.d, .int .i64 x.T.c, .int .i64 x.T.t] 36) := ⟨_, rfl⟩
  have hb2 : Below W0.heap.size W0 W2 := by rw [hW2]; exact below_alloc hb (Nat.le_refl _) _
  obtain ⟨b9, hb9⟩ : ∃ b, b = w1.heap.size := ⟨_, rfl⟩
  have hk9 : W2.heap[b9]? = some (.cells #[.int .i64 x.T.p, .slice B x.T.js.length d, .int .i64 x.T.g, .int .i64 x.T.o, .int .i64 x.T.l, .int .i64 x.T.d, .int .i64 x.T.c, .int .i64 x.T.t] 36 (0, 0)) := by rw [hW2, hb9]; exact heap_alloc_new w1 _
  have hlb : w.heap.size < b9 := by rw [hb9]; exact (Array.getElem?_eq_some_iff.1 (blk8b' HK0.out hb)).1
  have hk02 := blk8b' HK0.out hb2
  have l9 := (Array.getElem?_eq_some_iff.1 hk9).1
  have l0 := (Array.getElem?_eq_some_iff.1 hk02).1
  have HB2 := Lib.hid hb2
  have HW2 := Lib.hid hW2
  have Hb9 := Lib.hid hb9
  have HK9 := Lib.hid hk9
  have HLB := Lib.hid hlb
  obtain ⟨⟨q0, q1, q2, q3, q4, q5, q6, q7⟩, m0, m1, m2, m3, m4, m5, m6, m7⟩ := blk8 hk9
  have hk01 := blk8b' HK0.out hb
  have l01 := (Array.getElem?_eq_some_iff.1 hk01).1
  obtain ⟨s0, s1, s2, s3⟩ := job4 hk01
  clear hb hb2 hW2 hb9 hk9 hk02 hlb hk01
  go_wp2_with fail
  rw [← HW2.out, ← Hb9.out]
  clear s0 s1 s2 s3 l01
  refine (tpush_any x.T (.slice B x.T.js.length d) y now W2 (HJ.out.below HB2.out).tr HJL.out).mono ?_
  rintro e w3 ⟨v3, he, hR3, hb3⟩
  rw [HP.out] at he hR3
  dsimp only at he hR3
  rw [errV_n HE.out] at he
  subst he
  obtain ⟨A3, c3, rfl⟩ := Kd.R_slice hR3
  have hk93 := blk8b' HK9.out hb3
  obtain ⟨⟨y0, y1, y2, y3, y4, y5, y6, y7⟩, r0, r1, r2, r3, r4, r5, r6, r7⟩ := blk8 hk93
  have HB5 := Lib.hid (below_set8 (b := b9) (below_call (below_call HB0.out (Nat.le_refl _) HB2.out) (Nat.le_refl _) hb3) (Nat.le_of_lt HLB.out) (.int .i64 T1.p) (.slice A3 T1.js.length c3) (.int .i64 T1.g) (.int .i64 T1.o) (.int .i64 T1.l) (.int .i64 T1.d) (.int .i64 T1.c) (.int .i64 T1.t))
  clear hR3 hb3 hk93 q0 q1 q2 q3 q4 q5 q6 q7 m0 m1 m2 m3 m4 m5 m6 m7
  go_wp2
  go_ret
  refine ⟨rfl, ?_⟩
  with_reducible exact HB5.out

set_option maxHeartbeats 1000000 in
theorem lpush_ok (p t g cap i : Nat) (h now : Int) (y : Jb) (xs : List Sk) (x : Sk) (T1 : Tk) (w : World) (H : LF w p t g cap xs) (ha : SAt 2 h xs i x) (hp : pushF x.T y now = (T1, 0)) :
    Calls Try.prog 11 #[.pointer (some ⟨p, 0, none⟩), .int .i64 h, jv y, .int .i64 now] w fun e w' => ∃ v, e = .returned .nilIface ∧ LF w' p t g cap (xs.set i ⟨x.f0, x.f1, v, T1⟩) ∧ Chg (fun k => k = g) w w' := by
  obtain ⟨B, d, hv⟩ := (H.tt.jr i x ha.1).slice
  have hj := H.tt.jr i x ha.1
  rw [hv] at hj
  have hjl := H.tm.js i x ha.1
  have hjl1 : T1.js.length ≤ 8 := by have := pushF_js x.T y now; rw [hp] at this; exact this
  obtain ⟨W0, hW0⟩ : ∃ W, W = w.alloc (.cells #[.int .i64 y.f0, .int .i64 y.f1, .int .i64 y.f2, .int .i64 y.f3] 29) := ⟨_, rfl⟩
  have hB0 : Below w.heap.size w W0 := by rw [hW0]; exact (Below.refl _ w).alloc (Nat.le_refl _) _
  have hk0 : W0.heap[w.heap.size]? = some (.cells #[.int .i64 y.f0, .int .i64 y.f1, .int .i64 y.f2, .int .i64 y.f3] 29 (0, 0)) := by rw [hW0]; exact heap_alloc_new w _
  have H0 := H.below hB0
  have HT := Lib.hid (fun W (hB : Below W0.heap.size W0 W) => ltab_ok p t g cap xs W (H0.below hB))
  have G := tget_hit t g 8 cap i 2 h xs x W0 H0.tt H0.tm ha
  rw [hv] at G
  have HG := Lib.hid G
  have HJ := Lib.hid (hj.below hB0)
  have HP := Lib.hid hp
  have HJL := Lib.hid hjl
  have HJL1 := Lib.hid hjl1
  have HH := Lib.hid H
  have HA := Lib.hid ha
  have HB0 := Lib.hid hB0
  have HK0 := Lib.hid hk0
  have HW0 := Lib.hid hW0
  clear H ha hv hj hjl hjl1 hp hW0 hB0 hk0 H0 G
  go_enter Try.func11, Try.ntmps11
  go_wp2_with fail
  rw [← HW0.out]
  refine (HT.out W0 (Below.refl _ _)).mono ?_
  rintro e w_ ⟨rfl, rfl⟩
  go_wp2_with fail
  refine HG.out.mono ?_
  rintro e w1 ⟨rfl, hb⟩
  obtain ⟨W2, hW2⟩ : ∃ W, W = w1.alloc (.cells #[.int .i64 x.T.p, .slice B x.T.js.length d, .int .i64 x.T.g, .int .i64 x.T.o, .int .i64 x.T.l, .int .i64 x.T.d, .int .i64 x.T.c, .int .i64 x.T.t] 36) := ⟨_, rfl⟩
  have hb2 : Below W0.heap.size W0 W2 := by rw [hW2]; exact below_alloc hb (Nat.le_refl _) _
  obtain ⟨b9, hb9⟩ : ∃ b, b = w1.heap.size := ⟨_, rfl⟩
  have hk9 : W2.heap[b9]? = some (.cells #[.int .i64 x.T.p, .slice B x.T.js.length d, .int .i64 x.T.g, .int .i64 x.T.o, .int .i64 x.T.l, .int .i64 x.T.d, .int .i64 x.T.c, .int .i64 x.T.t] 36 (0, 0)) := by rw [hW2, hb9]; exact heap_alloc_new w1 _
  have hlb : w.heap.size < b9 := by rw [hb9]; exact (Array.getElem?_eq_some_iff.1 (blk8b' HK0.out hb)).1
  have hk02 := blk8b' HK0.out hb2
  have l9 := (Array.getElem?_eq_some_iff.1 hk9).1
  have l0 := (Array.getElem?_eq_some_iff.1 hk02).1
  have HB2 := Lib.hid hb2
  have HW2 := Lib.hid hW2
  have Hb9 := Lib.hid hb9
  have HK9 := Lib.hid hk9
  have HLB := Lib.hid hlb
  obtain ⟨⟨q0, q1, q2, q3, q4, q5, q6, q7⟩, m0, m1, m2, m3, m4, m5, m6, m7⟩ := blk8 hk9
  have hk01 := blk8b' HK0.out hb
  have l01 := (Array.getElem?_eq_some_iff.1 hk01).1
  obtain ⟨s0, s1, s2, s3⟩ := job4 hk01
  clear hb hb2 hW2 hb9 hk9 hk02 hlb hk01
  go_wp2_with fail
  rw [← HW2.out, ← Hb9.out]
  clear s0 s1 s2 s3 l01
  refine (tpush_any x.T (.slice B x.T.js.length d) y now W2 (HJ.out.below HB2.out).tr HJL.out).mono ?_
  rintro e w3 ⟨v3, he, hR3, hb3⟩
  rw [HP.out] at he hR3
  dsimp only at he hR3
  rw [errV_0] at he
  subst he
  obtain ⟨A3, c3, rfl⟩ := Kd.R_slice hR3
  have hk93 := blk8b' HK9.out hb3
  obtain ⟨⟨y0, y1, y2, y3, y4, y5, y6, y7⟩, r0, r1, r2, r3, r4, r5, r6, r7⟩ := blk8 hk93
  obtain ⟨W4, hW4⟩ : ∃ W, W = ((((((((w3.setCell ⟨b9, 0, none⟩ (.int .i64 T1.p)).setCell ⟨b9, 1, none⟩ (.slice A3 T1.js.length c3)).setCell ⟨b9, 2, none⟩ (.int .i64 T1.g)).setCell ⟨b9, 3, none⟩ (.int .i64 T1.o)).setCell ⟨b9, 4, none⟩ (.int .i64 T1.l)).setCell ⟨b9, 5, none⟩ (.int .i64 T1.d)).setCell ⟨b9, 6, none⟩ (.int .i64 T1.c)).setCell ⟨b9, 7, none⟩ (.int .i64 T1.t)) := ⟨_, rfl⟩
  have hgl := HH.out.tt.ltg
  have hl0 := HH.out.lt
  have hl1 := HH.out.tt.lt
  have hlb := HLB.out
  have C4 : Chg (fun k => k = b9) w3 W4 := by rw [hW4]; exact chg_b8 _ _ _ _ _ _ _ _ (Chg.refl _ w3)
  have hk94 : W4.heap[b9]? = some (.cells #[.int .i64 T1.p, .slice A3 T1.js.length c3, .int .i64 T1.g, .int .i64 T1.o, .int .i64 T1.l, .int .i64 T1.d, .int .i64 T1.c, .int .i64 T1.t] 36 (0, 0)) := by rw [hW4]; exact chain8' hk93
  have hj4 : JR W4 (.slice A3 T1.js.length c3) T1.js := by rw [hW4]; exact (JR.of_R hR3).box hk93 _ _ _ _ _ _ _ _
  have C04 : Chg (fun k => k = g) w W4 := ⟨C4.os.trans (hb3.os.trans (HB2.out.os.trans HB0.out.os)), C4.tape.trans (hb3.tape.trans (HB2.out.tape.trans HB0.out.tape)), C4.output.trans (hb3.output.trans (HB2.out.output.trans HB0.out.output)), Nat.le_trans HB0.out.size (Nat.le_trans HB2.out.size (Nat.le_trans hb3.size C4.size)), fun k hk hn => (C4.block k (by have := HB0.out.size; have := HB2.out.size; have := hb3.size; omega) (by omega)).trans ((hb3.block k (by have := HB0.out.size; have := HB2.out.size; omega)).trans ((HB2.out.block k (by have := HB0.out.size; omega)).trans (HB0.out.block k hk)))⟩
  have H4 : LF W4 p t g cap xs := (((HH.out.below HB0.out).below HB2.out).below hb3).chg C4 (by omega) (by omega) (by omega) (fun k cs fr hk e => by subst e; rw [hk93] at hk; simp at hk)
  have HT4 := Lib.hid (fun W (hB : Below W4.heap.size W4 W) => ltab_ok p t g cap xs W (H4.below hB))
  have HS4 := Lib.hid (fun W (hB : Below W4.heap.size W4 W) => tset_hit t g 8 cap i 2 h (.slice A3 T1.js.length c3) T1 xs x W (H4.below hB).tt (H4.below hB).tm HA.out (hj4.below hB))
  obtain ⟨⟨z0, z1, z2, z3, z4, z5, z6, z7⟩, -⟩ := blk8 hk94
  have HC04 := Lib.hid C04
  have HW4 := Lib.hid hW4
  clear hR3 hb3 hk93 hW4 C4 hk94 hj4 C04 H4 hgl hl0 hl1 hlb
  clear q0 q1 q2 q3 q4 q5 q6 q7 m0 m1 m2 m3 m4 m5 m6 m7
  go_wp2_with fail
  rw [← HW4.out]
  clear y0 y1 y2 y3 y4 y5 y6 y7 r0 r1 r2 r3 r4 r5 r6 r7
  first | go_loud (go_region_law (first
    | (go_simp; go_at_call 14; refine (HT4.out _ (by first | exact Below.refl _ _ | exact below_drewN' (Below.refl _ _) 1)).mono ?_; rintro e w_ ⟨rfl, rfl⟩)
    | (go_simp; go_at_call 20; refine (HS4.out _ (by first | exact Below.refl _ _ | exact below_drewN' (Below.refl _ _) 1)).mono ?_; rintro e w5 ⟨rfl, hT5, hC5⟩; have HT5 := Lib.hid hT5; have HC5 := Lib.hid (HC04.out.trans (Chg.trans (by first | exact Chg.refl _ _ | exact Chg.drewN (Chg.refl _ _) 1) hC5)); clear hT5 hC5))) | fail
  all_goals
    go_wp2
    go_ret
    exact ⟨_, rfl, HH.out.put HC5.out HT5.out (HH.out.tm.set i _ (HH.out.tm.gen i x HA.out.1).1 (HH.out.tm.gen i x HA.out.1).2 (fun _ => HH.out.tm.top i x HA.out.1 HA.out.2.1) (by have := HJL1.out; show T1.js.length ≤ _; omega)), HC5.out⟩

end Go.Proofs.Ytkfjlkpickeobaa

/- Of the text LF6 only what this claim needs (shake.py, this repo's). -/
set_option linter.unusedVariables false
set_option linter.unusedSimpArgs false
namespace Go.Proofs.Ytkfjlkpickeobaa
open Go.RowKit
open Go.Proofs.YtkfjlkpickeobaaW.PrintWords (Kd Drawn0 Kept rd rdOf)
open Go.Proofs.Ytkfjlkpickeobaa.PLeafUrgent
set_option maxRecDepth 100000

/-- The slots that are taken, with their places. -/
def tkL : Nat → List Sk → List (Nat × Sk)
  | _, [] => []
  | i, x :: r => if x.f1 = true then (i, x) :: tkL (i + 1) r else tkL (i + 1) r
theorem tallF_tkL (kind : Int) : ∀ (xs : List Sk) (i : Nat), tallF kind i xs = (tkL i xs).map fun q => mk kind q.1 q.2.f0
  | [], i => by simp only [tallF, tkL, List.map_nil]
  | x :: r, i => by
    simp only [tallF, tkL]
    split
    · rw [List.map_cons, tallF_tkL kind r (i + 1)]
    · exact tallF_tkL kind r (i + 1)
theorem tkL_mem : ∀ (xs : List Sk) (i j : Nat) (x : Sk), (j, x) ∈ tkL i xs → i ≤ j ∧ xs[j - i]? = some x ∧ x.f1 = true
  | [], i, j, x, h => by simp [tkL] at h
  | y :: r, i, j, x, h => by
    simp only [tkL] at h
    by_cases hy : y.f1 = true
    · rw [if_pos hy] at h
      rcases List.mem_cons.1 h with e | h
      · have e1 : j = i := congrArg Prod.fst e
        have e2 : x = y := congrArg Prod.snd e
        subst e1 e2
        exact ⟨Nat.le_refl _, by simp, hy⟩
      · obtain ⟨h1, h2, h3⟩ := tkL_mem r (i + 1) j x h
        refine ⟨by omega, ?_, h3⟩
        rw [show j - i = (j - (i + 1)) + 1 by omega, List.getElem?_cons_succ]
        exact h2
    · rw [if_neg hy] at h
      obtain ⟨h1, h2, h3⟩ := tkL_mem r (i + 1) j x h
      refine ⟨by omega, ?_, h3⟩
      rw [show j - i = (j - (i + 1)) + 1 by omega, List.getElem?_cons_succ]
      exact h2
theorem tkL_at {xs : List Sk} {k i : Nat} {x : Sk} (h : (tkL 0 xs)[k]? = some (i, x)) : SAt 2 (mk 2 i x.f0) xs i x := by
  obtain ⟨h1, h2, h3⟩ := tkL_mem xs 0 i x (List.mem_of_getElem? h)
  exact ⟨by simpa using h2, h3, rfl⟩
theorem tall_at {xs : List Sk} {k i : Nat} {x : Sk} (h : (tkL 0 xs)[k]? = some (i, x)) : (tallH 2 xs)[k]? = some (mk 2 i x.f0) := by
  unfold tallH
  rw [tallF_tkL, List.getElem?_map, h]
  rfl
theorem tall_len (xs : List Sk) : (tallH 2 xs).length = (tkL 0 xs).length := by unfold tallH; rw [tallF_tkL, List.length_map]
theorem tkL_len : ∀ (xs : List Sk) (i : Nat), (tkL i xs).length ≤ xs.length
  | [], i => by simp [tkL]
  | x :: r, i => by
    have := tkL_len r (i + 1)
    simp only [tkL]
    split <;> simp <;> omega

/-- One step of the search. -/
def rdStep (s : Int × Int) (q : Nat × Sk) : Int × Int := if 0 < q.2.T.js.length ∧ q.2.T.p < s.2 then (mk 2 q.1 q.2.f0, q.2.T.p) else s
def readyF (xs : List Sk) : Int := ((tkL 0 xs).foldl rdStep (0, 32)).1

theorem int_at {e : TypeId} {w : World} {b : Nat} {ok : Nat → Prop} {A : Option Addr} {n cap : Nat} {xs : List Int} (h : (Kd.int .i64).R e w b ok (.slice A n cap) xs) {i : Nat} {x : Int} (hx : xs[i]? = some x) : ∃ g, A = some ⟨g, 0, none⟩ ∧ w.cell? ⟨g, i, none⟩ = some (.int .i64 x) := by
  have hi : i < xs.length := (List.getElem?_eq_some_iff.1 hx).1
  obtain ⟨g, cap', e1, -, -, -⟩ := Kd.R_form h (by omega)
  injection e1 with e2 e3 e4
  subst e2
  refine ⟨g, rfl, ?_⟩
  obtain ⟨rfl, -, -⟩ := Kd.R_reads' h
  have ho := Kd.own_of_R h
  have hc := ho.cellAt i (by rw [Nat.mul_one]; exact hi)
  rw [hc]
  simp [YtkfjlkpickeobaaW.PrintWords.encs, hx]

set_option maxHeartbeats 2000000 in
theorem lready_ok (p t g cap : Nat) (xs : List Sk) (w : World) (H : LF w p t g cap xs) :
    Calls Try.prog 7 #[.pointer (some ⟨p, 0, none⟩)] w fun e w' => e = .returned (.int .i64 (readyF xs)) ∧ Below w.heap.size w w' := by
  have HA := Lib.hid (lall_ok p t g cap xs w H)
  have HH := Lib.hid H
  clear H
  go_enter Try.func7, Try.ntmps7
  go_wp2_with fail
  refine HA.out.mono ?_
  rintro e w1 ⟨v, rfl, hR, hb⟩
  obtain ⟨A, c, rfl⟩ := Kd.R_slice hR
  obtain ⟨n, hn⟩ : ∃ n, n = (tallH 2 xs).length := ⟨_, rfl⟩
  have HN : Hid (n = (tkL 0 xs).length ∧ n ≤ 8) := Lib.hid ⟨by rw [hn, tall_len], by rw [hn, tall_len]; have := tkL_len xs 0; have := HH.out.tm.len; omega⟩
  rw [← hn] at hR ⊢
  have HR := Lib.hid hR
  have HB := Lib.hid hb
  clear hR hb hn HA
  have hn8 : n ≤ 8 := HN.out.2
  go_wp2_with fail
  go_loopw [3, 4, 12] (fun f q i wr => ∃ (k : Nat) (fi pr : Int), k ≤ n ∧ f = .int .i64 fi ∧ q = .int .i64 pr ∧ i = .int .i64 k ∧ Hid (((tkL 0 xs).take k).foldl rdStep (0, 32) = (fi, pr)) ∧ Hid (Below w.heap.size w wr) ∧ Hid (Below w1.heap.size w1 wr)) (fun _ _ i _ => n - (intOf i).toNat)
  case atStart => exact ⟨0, 0, 32, Nat.zero_le _, rfl, rfl, rfl, Lib.hid rfl, HB, Lib.hid (Below.refl _ _)⟩
  case round =>
    clear HB
    obtain ⟨k, fi, pr, hk, rfl, rfl, rfl, hF, hB, hB1⟩ := hrel
    by_cases hlt : k < n
    · obtain ⟨⟨i, x⟩, hx⟩ : ∃ q, (tkL 0 xs)[k]? = some q := ⟨_, List.getElem?_eq_getElem (by have := HN.out.1; omega)⟩
      have hs := tkL_at hx
      obtain ⟨gh, rfl, hc⟩ := int_at HR.out (tall_at hx)
      have hcr := keep hB1.out hc
      have HLw := HH.out.below hB.out
      obtain ⟨B, d, hv⟩ := (HLw.tt.jr i x hs.1).slice
      have G := tget_hit t g 8 cap i 2 (mk 2 i x.f0) xs x wr HLw.tt HLw.tm hs
      have hj := HLw.tt.jr i x hs.1
      rw [hv] at G hj
      have c0 := HLw.c0
      have HG := Lib.hid G
      have HJ := Lib.hid hj
      have HX := Lib.hid hx
      obtain ⟨hh, hhh⟩ : ∃ y, y = mk 2 i x.f0 := ⟨_, rfl⟩
      rw [← hhh] at HG hcr
      have HHH := Lib.hid hhh
      have HTK : Hid (((tkL 0 xs).take (k + 1)).foldl rdStep (0, 32) = rdStep (fi, pr) (i, x)) := Lib.hid (by
        rw [List.take_add_one, hx]
        simp only [Option.toList_some, List.foldl_append, hF.out, List.foldl_cons, List.foldl_nil])
      clear hs hc HLw hv G hj hx hhh hF
      go_wp2_with fail
      refine HG.out.mono ?_
      rintro e w3 ⟨rfl, hb3⟩
      obtain ⟨W4, hW4⟩ : ∃ W, W = w3.alloc (.cells #[.int .i64 x.T.p, .slice B x.T.js.length d, .int .i64 x.T.g, .int .i64 x.T.o, .int .i64 x.T.l, .int .i64 x.T.d, .int .i64 x.T.c, .int .i64 x.T.t] 36) := ⟨_, rfl⟩
      obtain ⟨b7, hb7⟩ : ∃ b, b = w3.heap.size := ⟨_, rfl⟩
      have hb4 : Below wr.heap.size wr W4 := by rw [hW4]; exact below_alloc hb3 (Nat.le_refl _) _
      have hk7 : W4.heap[b7]? = some (.cells #[.int .i64 x.T.p, .slice B x.T.js.length d, .int .i64 x.T.g, .int .i64 x.T.o, .int .i64 x.T.l, .int .i64 x.T.d, .int .i64 x.T.c, .int .i64 x.T.t] 36 (0, 0)) := by rw [hW4, hb7]; exact heap_alloc_new w3 _
      have HJ4 := Lib.hid (HJ.out.below hb4)
      have HB4 := Lib.hid (below_call hB.out (Nat.le_refl _) hb4)
      have HB14 := Lib.hid (below_call hB1.out (Nat.le_refl _) hb4)
      have HK7 := Lib.hid hk7
      have HW4 := Lib.hid hW4
      have Hb7 := Lib.hid hb7
      clear hb3 hW4 hb7 hb4 hk7 hcr c0
      by_cases hj : x.T.js.length = 0
      · have HTR := Lib.hid (fun W (hB : Below W4.heap.size W4 W) => tready_c x.T (.slice B x.T.js.length d) false W (HJ4.out.below hB).tr (decide_eq_false (by omega)))
        have HST : Hid (rdStep (fi, pr) (i, x) = (fi, pr)) := Lib.hid (if_neg (fun h => by have h1 := h.1; simp only at h1; omega))
        clear hj
        go_wp2_with fail
        rw [← HW4.out, ← Hb7.out]
        refine (HTR.out W4 (Below.refl _ _)).mono ?_
        rintro e w5 ⟨rfl, hb5⟩
        have HB5 := Lib.hid (below_call HB4.out (Nat.le_refl _) hb5)
        have HB15 := Lib.hid (below_call HB14.out (Nat.le_refl _) hb5)
        clear hb5
        go_wp2
        go_roundw
        case rel => exact ⟨k + 1, fi, pr, by omega, rfl, rfl, by go_num, Lib.hid (by rw [HTK.out, HST.out]), HB5, HB15⟩
        case measure => simp [intOf]; omega
      · have HTR := Lib.hid (fun W (hB : Below W4.heap.size W4 W) => tready_c x.T (.slice B x.T.js.length d) true W (HJ4.out.below hB).tr (decide_eq_true (by omega)))
        by_cases hp : x.T.p < pr
        · have HST : Hid (rdStep (fi, pr) (i, x) = (hh, x.T.p)) := Lib.hid (by rw [HHH.out]; exact if_pos ⟨by show 0 < x.T.js.length; omega, hp⟩)
          have k1 : decide (x.T.p < pr) = true := decide_eq_true hp
          clear hj hp
          go_wp2_with fail
          rw [← HW4.out, ← Hb7.out]
          refine (HTR.out W4 (Below.refl _ _)).mono ?_
          rintro e w5 ⟨rfl, hb5⟩
          obtain ⟨⟨q0, q1, q2, q3, q4, q5, q6, q7⟩, -⟩ := blk8 (blk8b' HK7.out hb5)
          have HB5 := Lib.hid (below_call HB4.out (Nat.le_refl _) hb5)
          have HB15 := Lib.hid (below_call HB14.out (Nat.le_refl _) hb5)
          clear hb5
          go_wp2_with fail
          go_quiet (fail)
          go_wp2_with fail
          go_roundw
          case rel => exact ⟨k + 1, hh, x.T.p, by omega, rfl, rfl, by go_num, Lib.hid (by rw [HTK.out, HST.out]), Lib.hid (below_drewN' HB5.out nq), Lib.hid (below_drewN' HB15.out nq)⟩
          case measure => simp [intOf]; omega
        · have HST : Hid (rdStep (fi, pr) (i, x) = (fi, pr)) := Lib.hid (if_neg (fun h => hp h.2))
          have k1 : decide (x.T.p < pr) = false := decide_eq_false hp
          clear hj hp
          go_wp2_with fail
          rw [← HW4.out, ← Hb7.out]
          refine (HTR.out W4 (Below.refl _ _)).mono ?_
          rintro e w5 ⟨rfl, hb5⟩
          obtain ⟨⟨q0, q1, q2, q3, q4, q5, q6, q7⟩, -⟩ := blk8 (blk8b' HK7.out hb5)
          have HB5 := Lib.hid (below_call HB4.out (Nat.le_refl _) hb5)
          have HB15 := Lib.hid (below_call HB14.out (Nat.le_refl _) hb5)
          clear hb5
          go_wp2
          go_roundw
          case rel => exact ⟨k + 1, fi, pr, by omega, rfl, rfl, by go_num, Lib.hid (by rw [HTK.out, HST.out]), HB5, HB15⟩
          case measure => simp [intOf]; omega
    · have hkn : k = n := by omega
      have hf : readyF xs = fi := by
        have h := hF.out
        rw [List.take_of_length_le (by have := HN.out.1; omega)] at h
        unfold readyF
        rw [h]
      have HFI := Lib.hid hf
      clear hf hkn
      go_wp2
      go_ret
      exact ⟨congrArg (fun z => Ending.returned (.int .i64 z)) HFI.out.symm, hB.out⟩

end Go.Proofs.Ytkfjlkpickeobaa

/- Of the text LF7 only what this claim needs (shake.py, this repo's). -/
set_option linter.unusedVariables false
set_option linter.unusedSimpArgs false
namespace Go.Proofs.Ytkfjlkpickeobaa
open Go.RowKit
open Go.Proofs.YtkfjlkpickeobaaW.PrintWords (Kd Drawn0 Kept rd rdOf)
open Go.Proofs.Ytkfjlkpickeobaa.PLeafUrgent
set_option maxRecDepth 100000

/-- What became of the job, as it is marked. -/
def markF (wh : Int) : Int := if wh = 1 then 8 else if wh = 2 then 9 else wh

theorem loffer_none (p t g cap : Nat) (now : Int) (xs : List Sk) (w : World) (H : LF w p t g cap xs) (ha : SNo 2 (readyF xs) xs) :
    Calls Try.prog 8 #[.pointer (some ⟨p, 0, none⟩), .int .i64 now] w fun e w' => e = .returned (.tuple #[.int .i64 0, .int .i64 0, .int .i64 0]) ∧ Below w.heap.size w w' := by
  have HRD := Lib.hid (lready_ok p t g cap xs w H)
  obtain ⟨hh, hhh⟩ : ∃ y, y = readyF xs := ⟨_, rfl⟩
  rw [← hhh] at HRD ha
  have HG := Lib.hid (fun W (hB : Below w.heap.size w W) => tget_miss t g 8 cap 2 hh xs W (H.below hB).tt (H.below hB).tm ha)
  have HT := Lib.hid (fun W (hB : Below w.heap.size w W) => ltab_ok p t g cap xs W (H.below hB))
  clear H ha hhh
  go_enter Try.func8, Try.ntmps8
  go_wp2_with fail
  refine HRD.out.mono ?_
  rintro e w0 ⟨rfl, hb0⟩
  have HB0 := Lib.hid hb0
  clear hb0
  go_wp2_with fail
  refine (HT.out _ HB0.out).mono ?_
  rintro e w_ ⟨rfl, rfl⟩
  go_wp2_with fail
  refine (HG.out _ HB0.out).mono ?_
  rintro e w1 ⟨rfl, hb⟩
  have HB := Lib.hid (below_alloc (below_call HB0.out (Nat.le_refl _) hb) (by have := HB0.out.size; have := hb.size; omega) (.cells #[.int .i64 0, .slice none 0 0, .int .i64 0, .int .i64 0, .int .i64 0, .int .i64 0, .int .i64 0, .int .i64 0] 36))
  clear hb
  go_wp2
  go_ret3
  exact ⟨rfl, HB.out⟩

set_option maxHeartbeats 2000000 in
theorem loffer_ok (p t g cap i : Nat) (now wh by_ : Int) (xs : List Sk) (x : Sk) (T1 : Tk) (w : World) (H : LF w p t g cap xs) (ha : SAt 2 (readyF xs) xs i x) (hp : runF x.T now = (T1, wh, by_, 0)) :
    Calls Try.prog 8 #[.pointer (some ⟨p, 0, none⟩), .int .i64 now] w fun e w' => ∃ v, e = .returned (.tuple #[.int .i64 (readyF xs), .int .i64 (markF wh), .int .i64 by_]) ∧ LF w' p t g cap (xs.set i ⟨x.f0, x.f1, v, T1⟩) ∧ Chg (fun k => k = g) w w' := by
  have HRD := Lib.hid (lready_ok p t g cap xs w H)
  obtain ⟨hh, hhh⟩ : ∃ y, y = readyF xs := ⟨_, rfl⟩
  have HHH := Lib.hid hhh
  rw [← hhh] at HRD ha
  obtain ⟨B, d, hv⟩ := (H.tt.jr i x ha.1).slice
  have hj := H.tt.jr i x ha.1
  rw [hv] at hj
  have hjl := H.tm.js i x ha.1
  have hjl1 : T1.js.length ≤ 8 := by have := @runF_js x.T now; rw [hp] at this; exact this
  have G := fun W (hB : Below w.heap.size w W) => tget_hit t g 8 cap i 2 hh xs x W (H.below hB).tt (H.below hB).tm ha
  rw [hv] at G
  have HG := Lib.hid G
  have HT := Lib.hid (fun W (hB : Below w.heap.size w W) => ltab_ok p t g cap xs W (H.below hB))
  have HJ := Lib.hid hj
  have HP := Lib.hid hp
  have HJL := Lib.hid hjl
  have HJL1 := Lib.hid hjl1
  have HH := Lib.hid H
  have HA := Lib.hid ha
  clear H ha hv hj hjl hjl1 hp G hhh
  go_enter Try.func8, Try.ntmps8
  go_wp2_with fail
  refine HRD.out.mono ?_
  rintro e W0 ⟨rfl, hb0⟩
  have HB0 := Lib.hid hb0
  clear hb0
  go_wp2_with fail
  refine (HT.out _ HB0.out).mono ?_
  rintro e w_ ⟨rfl, rfl⟩
  go_wp2_with fail
  refine (HG.out _ HB0.out).mono ?_
  rintro e w1 ⟨rfl, hb⟩
  obtain ⟨W2, hW2⟩ : ∃ W, W = w1.alloc (.cells #[.int .i64 x.T.p, .slice B x.T.js.length d, .int .i64 x.T.g, .int .i64 x.T.o, .int .i64 x.T.l, .int .i64 x.T.d, .int .i64 x.T.c, .int .i64 x.T.t] 36) := ⟨_, rfl⟩
  have hb2 : Below W0.heap.size W0 W2 := by rw [hW2]; exact below_alloc hb (Nat.le_refl _) _
  obtain ⟨b9, hb9⟩ : ∃ b, b = w1.heap.size := ⟨_, rfl⟩
  have hk9 : W2.heap[b9]? = some (.cells #[.int .i64 x.T.p, .slice B x.T.js.length d, .int .i64 x.T.g, .int .i64 x.T.o, .int .i64 x.T.l, .int .i64 x.T.d, .int .i64 x.T.c, .int .i64 x.T.t] 36 (0, 0)) := by rw [hW2, hb9]; exact heap_alloc_new w1 _
  have hlb : w.heap.size ≤ b9 := by rw [hb9]; exact Nat.le_trans HB0.out.size hb.size
  have l9 := (Array.getElem?_eq_some_iff.1 hk9).1
  have HB2 := Lib.hid hb2
  have HW2 := Lib.hid hW2
  have Hb9 := Lib.hid hb9
  have HK9 := Lib.hid hk9
  have HLB := Lib.hid hlb
  obtain ⟨⟨q0, q1, q2, q3, q4, q5, q6, q7⟩, m0, m1, m2, m3, m4, m5, m6, m7⟩ := blk8 hk9
  clear hb hb2 hW2 hb9 hk9 hlb
  go_wp2_with fail
  rw [← HW2.out, ← Hb9.out]
  refine (trun_any x.T (.slice B x.T.js.length d) now W2 ((HJ.out.below HB0.out).below HB2.out).tr HJL.out).mono ?_
  rintro e w3 ⟨v3, he, hR3, hb3⟩
  rw [HP.out] at he hR3
  dsimp only at he hR3
  rw [errV_0] at he
  subst he
  obtain ⟨A3, c3, rfl⟩ := Kd.R_slice hR3
  have hk93 := blk8b' HK9.out hb3
  obtain ⟨⟨y0, y1, y2, y3, y4, y5, y6, y7⟩, r0, r1, r2, r3, r4, r5, r6, r7⟩ := blk8 hk93
  obtain ⟨W4, hW4⟩ : ∃ W, W = ((((((((w3.setCell ⟨b9, 0, none⟩ (.int .i64 T1.p)).setCell ⟨b9, 1, none⟩ (.slice A3 T1.js.length c3)).setCell ⟨b9, 2, none⟩ (.int .i64 T1.g)).setCell ⟨b9, 3, none⟩ (.int .i64 T1.o)).setCell ⟨b9, 4, none⟩ (.int .i64 T1.l)).setCell ⟨b9, 5, none⟩ (.int .i64 T1.d)).setCell ⟨b9, 6, none⟩ (.int .i64 T1.c)).setCell ⟨b9, 7, none⟩ (.int .i64 T1.t)) := ⟨_, rfl⟩
  have hgl := HH.out.tt.ltg
  have hl0 := HH.out.lt
  have hl1 := HH.out.tt.lt
  have hlb := HLB.out
  have C4 : Chg (fun k => k = b9) w3 W4 := by rw [hW4]; exact chg_b8 _ _ _ _ _ _ _ _ (Chg.refl _ w3)
  have hk94 : W4.heap[b9]? = some (.cells #[.int .i64 T1.p, .slice A3 T1.js.length c3, .int .i64 T1.g, .int .i64 T1.o, .int .i64 T1.l, .int .i64 T1.d, .int .i64 T1.c, .int .i64 T1.t] 36 (0, 0)) := by rw [hW4]; exact chain8' hk93
  have hj4 : JR W4 (.slice A3 T1.js.length c3) T1.js := by rw [hW4]; exact (JR.of_R hR3).box hk93 _ _ _ _ _ _ _ _
  have C04 : Chg (fun k => k = g) w W4 := ⟨C4.os.trans (hb3.os.trans (HB2.out.os.trans HB0.out.os)), C4.tape.trans (hb3.tape.trans (HB2.out.tape.trans HB0.out.tape)), C4.output.trans (hb3.output.trans (HB2.out.output.trans HB0.out.output)), Nat.le_trans HB0.out.size (Nat.le_trans HB2.out.size (Nat.le_trans hb3.size C4.size)), fun k hk hn => (C4.block k (by have := HB0.out.size; have := HB2.out.size; have := hb3.size; omega) (by omega)).trans ((hb3.block k (by have := HB0.out.size; have := HB2.out.size; omega)).trans ((HB2.out.block k (by have := HB0.out.size; omega)).trans (HB0.out.block k hk)))⟩
  have H4 : LF W4 p t g cap xs := (((HH.out.below HB0.out).below HB2.out).below hb3).chg C4 (by omega) (by omega) (by omega) (fun k cs fr hk e => by subst e; rw [hk93] at hk; simp at hk)
  have c04 : W4.cell? ⟨p, 0, none⟩ = some (.pointer (some ⟨t, 0, none⟩)) := H4.c0
  have HS4 := Lib.hid (fun W (hB : Below W4.heap.size W4 W) => tset_hit t g 8 cap i 2 hh (.slice A3 T1.js.length c3) T1 xs x W (H4.below hB).tt (H4.below hB).tm HA.out (hj4.below hB))
  obtain ⟨⟨z0, z1, z2, z3, z4, z5, z6, z7⟩, -⟩ := blk8 hk94
  have HC04 := Lib.hid C04
  have HW4 := Lib.hid hW4
  clear hR3 hb3 hk93 hW4 C4 hk94 hj4 C04 H4 hgl hl0 hl1 hlb
  clear q0 q1 q2 q3 q4 q5 q6 q7 m0 m1 m2 m3 m4 m5 m6 m7
  go_wp2_with fail
  rw [← HW4.out]
  clear y0 y1 y2 y3 y4 y5 y6 y7 r0 r1 r2 r3 r4 r5 r6 r7
  first | go_loud (go_region_law (first
    | (go_simp; go_at_call 20; refine (HS4.out _ (by first | exact Below.refl _ _ | exact below_drewN' (Below.refl _ _) 1)).mono ?_; rintro e w5 ⟨rfl, hT5, hC5⟩; have HT5 := Lib.hid hT5; have HC5 := Lib.hid (HC04.out.trans (Chg.trans (by first | exact Chg.refl _ _ | exact Chg.drewN (Chg.refl _ _) 1) hC5)); clear hT5 hC5))) | fail
  all_goals
    have HL5 := Lib.hid (HH.out.put HC5.out HT5.out (HH.out.tm.set i _ (HH.out.tm.gen i x HA.out.1).1 (HH.out.tm.gen i x HA.out.1).2 (fun _ => HH.out.tm.top i x HA.out.1 HA.out.2.1) (by have := HJL1.out; show T1.js.length ≤ _; omega)))
    clear c04 z0 z1 z2 z3 z4 z5 z6 z7
    by_cases h1 : wh = 1
    · subst h1
      go_wp2
      go_ret3
      exact ⟨_, by rw [HHH.out]; rfl, HL5.out, HC5.out⟩
    · have e1 : (wh == 1) = false := by rw [beq_eq_false_iff_ne]; exact h1
      have e1' : decide (wh = 1) = false := decide_eq_false h1
      by_cases h2 : wh = 2
      · subst h2
        go_wp2
        go_ret3
        exact ⟨_, by rw [HHH.out]; rfl, HL5.out, HC5.out⟩
      · have e2 : (wh == 2) = false := by rw [beq_eq_false_iff_ne]; exact h2
        have e2' : decide (wh = 2) = false := decide_eq_false h2
        have HMK := Lib.hid (show markF wh = wh by unfold markF; rw [if_neg h1, if_neg h2])
        clear h1 h2
        go_wp2
        go_ret3
        exact ⟨_, by rw [HHH.out, HMK.out]; rfl, HL5.out, HC5.out⟩

end Go.Proofs.Ytkfjlkpickeobaa
