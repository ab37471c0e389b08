/- tithelaw04.FifoNone, by contract. -/
import Derived.Test.YtahaclglkbgpcaaFqA4
import Derived.Test.YtahaclglkbgpcaaFqA5
import Derived.Test.YtahaclglkbgpcaaFqW
set_option linter.unusedVariables false
set_option linter.unusedSimpArgs false
namespace Go.Proofs.Ytahaclglkbgpcaa
open Go.RowKit Go.Shelf
set_option maxRecDepth 100000
attribute [local go_sem] Oper.semAt_some

theorem inW {P : Program} {f : FuncId} {args : Array Value} {w : World} {R : Ending → World → Prop} {n : Nat} (h : Calls P f args w R) : CallsIn Fence.wide n P f args w R := callsIn_wide.2 h

/-- The three blocks of the walk: the result, the bare queue, the row of both. -/
structure NF (w W : World) : Prop where
  below : Below w.heap.size w W
  h0 : W.heap[w.heap.size]? = some (.cells #[.bool false] 4 (0, 0))
  h1 : W.heap[w.heap.size + 1]? = some (.cells #[.slice none 0 0, .int .i64 0, .int .i64 0, .int .i64 0] 84 (0, 0))
  h2 : W.heap[w.heap.size + 1 + 1]? = some (.cells #[.pointer none, .pointer (some ⟨w.heap.size + 1, 0, none⟩)] 23 (0, 0))

theorem blk_below {W W' : World} {k : Nat} {o : Obj} (hb : Below W.heap.size W W') (h : W.heap[k]? = some o) : W'.heap[k]? = some o :=
  (hb.block k (Array.getElem?_eq_some_iff.1 h).1).trans h

theorem NF.call {w W W' : World} (h : NF w W) (hb : Below W.heap.size W W') : NF w W' :=
  ⟨below_call h.below (Nat.le_refl _) hb, blk_below hb h.h0, blk_below hb h.h1, blk_below hb h.h2⟩

theorem blk_kept {A B : World} {row : Option Nat} {k : Nat} {vs : Array Value} {t : TypeId} {fz : Nat × Nat} (h : A.heap[k]? = some (.cells vs t fz)) (hg : A.grownBy B row) (hr : ∀ r, row = some r → ∃ o : Obj, A.heap[r]? = some o ∧ o.isCells = false) : B.heap[k]? = some (.cells vs t fz) := by
  refine (hg.block k (Array.getElem?_eq_some_iff.1 h).1 (fun e => ?_)).trans h
  obtain ⟨o, h1, h2⟩ := hr k e.symm
  rw [h] at h1
  cases h1
  simp [Obj.isCells] at h2

theorem NF.own (w : World) (B : Nat) (hB : w.heap.size ≤ B) : OwnFrom B (fun (_ : List (Nat × Int)) W => ((W.heap[w.heap.size]? = some (.cells #[.bool false] 4 (0, 0)) ∧ W.heap[w.heap.size + 1]? = some (.cells #[.slice none 0 0, .int .i64 0, .int .i64 0, .int .i64 0] 84 (0, 0)) ∧ W.heap[w.heap.size + 1 + 1]? = some (.cells #[.pointer none, .pointer (some ⟨w.heap.size + 1, 0, none⟩)] 23 (0, 0))) ∧ Below w.heap.size w W)) :=
  OwnFrom.and (Own.from (fun s A B row hs hg hr => ⟨blk_kept hs.1 hg hr, blk_kept hs.2.1 hg hr, blk_kept hs.2.2 hg hr⟩) _) (ownFrom_below (Nat.le_refl _) hB)

theorem NF.qe {w W : World} (h : NF w W) : QE W (some ⟨w.heap.size + 1, 0, none⟩) := .inr ⟨_, rfl, by simp [World.cell?, h.h1], by simp [World.cell?, h.h1]⟩

theorem NF.qo {w W : World} (h : NF w W) (U : Nat → Prop) (hU : ¬ U (w.heap.size + 1)) : QO U W (some ⟨w.heap.size + 1, 0, none⟩) 0 [] := by
  refine .inr ⟨_, rfl, ⟨fun k => k = w.heap.size + 1, ⟨.slice none 0 0, 0, 0, 0, [], ⟨h.h1, ⟨rfl, .inl ⟨rfl, rfl⟩⟩, .inl ⟨rfl, rfl, rfl⟩, Nat.le_refl _, Nat.le_refl _, by omega⟩, by simp, by simp [lst], fun k => ?_⟩, fun k hk => by rw [hk]; exact hU⟩⟩
  simp [Value.ownBlock]

set_option maxHeartbeats 1000000 in
theorem none_ok (i v : Int) (w : World) :
    Calls Try.prog 8 #[.int .i64 i, .int .i64 v] w fun e w' => e = .returned (.bool true) ∧ Below w.heap.size w w' := by
  refine (callsIn_wide (n := 6)).1 ?_
  refine callsIn_of_wp_marks Try.func8 rfl trivial ?_ rfl
  simp only [Try.ntmps8, List.size_toArray, List.length_cons, List.length_nil, Nat.reduceAdd, Nat.reduceSub, Array.replicate_succ, Array.replicate_zero, List.push_toArray, List.append_toArray, List.nil_append, List.cons_append]
  gi_wp2
  obtain ⟨W0, hW0⟩ : ∃ x, x = ((w.alloc (.cells #[.bool false] 4)).alloc (.cells #[.slice none 0 0, .int .i64 0, .int .i64 0, .int .i64 0] 84)).alloc (.cells #[.pointer none, .pointer (some ⟨w.heap.size + 1, 0, none⟩)] 23) := ⟨_, rfl⟩
  rw [← hW0]
  have N0 : NF w W0 := by
    rw [hW0]
    refine ⟨(((Below.refl _ w).alloc (Nat.le_refl _) _).alloc (by simp) _).alloc (by simp; omega) _, ?_, ?_, ?_⟩
    · exact blk_below ((Below.refl _ _).alloc (Nat.le_refl _) _) (blk_below ((Below.refl _ _).alloc (Nat.le_refl _) _) (World.alloc_heap_new w _))
    · have h := World.alloc_heap_new (w.alloc (.cells #[.bool false] 4)) (.cells #[.slice none 0 0, .int .i64 0, .int .i64 0, .int .i64 0] 84)
      rw [World.size_alloc] at h
      exact blk_below ((Below.refl _ _).alloc (Nat.le_refl _) _) h
    · have h := World.alloc_heap_new ((w.alloc (.cells #[.bool false] 4)).alloc (.cells #[.slice none 0 0, .int .i64 0, .int .i64 0, .int .i64 0] 84)) (.cells #[.pointer none, .pointer (some ⟨w.heap.size + 1, 0, none⟩)] 23)
      rw [World.size_alloc, World.size_alloc] at h
      exact h
  have HN := Lib.hid N0
  clear N0 hW0
  refine wpIn_loop_rounds 3 ?_
  rw [roundsIn_succ]
  have a0 : W0.cell? ⟨w.heap.size + 1 + 1, 0, none⟩ = some (.pointer none) := by simp [World.cell?, HN.out.h2]
  have HE : Hid (QE W0 none) := Lib.hid (.inl rfl)
  gi_wp2_with (first
    | (refine ⟨trivial, ?_⟩; gi_at_call 10; refine (inW (pop_e _ HE.out)).mono ?_; rintro e w' ⟨rfl, rfl⟩)
    | (refine ⟨trivial, ?_⟩; gi_at_call 39; refine (inW (head_e _ HE.out)).mono ?_; rintro e w' ⟨rfl, rfl⟩)
    | (refine ⟨trivial, ?_⟩; gi_at_call 40; refine (inW (at_e _ HE.out _)).mono ?_; rintro e w' ⟨rfl, rfl⟩)
    | (refine ⟨trivial, ?_⟩; gi_at_call 41; refine (inW (drop_e _ HE.out _)).mono ?_; rintro e w' ⟨rfl, rfl⟩)
    | (refine ⟨trivial, ?_⟩; gi_at_call 11; refine (inW (push_e _ HE.out _)).mono ?_; rintro e w' ⟨rfl, rfl⟩)
    | (refine ⟨trivial, ?_⟩; gi_at_call 42; refine (inW (put_e _ HE.out _ _)).mono ?_; rintro e w' ⟨rfl, rfl⟩)
    | (refine ⟨trivial, ?_⟩; gi_at_call 28; refine (inW (num_errno _ _)).mono ?_; rintro e w' ⟨rfl, rfl⟩)
    | (refine ⟨trivial, ?_⟩; gi_at_call 12; refine (inW (len_e _ HE.out)).mono ?_; rintro e w' ⟨rfl, rfl⟩)
    | (refine ⟨trivial, ?_⟩; gi_at_call 13; refine (inW (room_e _ HE.out)).mono ?_; rintro e w' ⟨rfl, rfl⟩)
    | (refine ⟨trivial, ?_⟩; gi_at_call 18; refine (inW (limit_e _ HE.out)).mono ?_; rintro e w' ⟨rfl, rfl⟩)
    | (refine ⟨trivial, ?_⟩; gi_at_call 14; refine (inW (list_e _ HE.out)).mono ?_; rintro e w' ⟨rfl, rfl⟩)
    | (refine ⟨trivial, ?_⟩; gi_at_call 20; refine (inW (clear_e _ HE.out)).mono ?_; rintro e w' ⟨rfl, rfl⟩)
    | (refine ⟨trivial, ?_⟩; gi_at_call 21; refine (all_in _ none W0).mono ?_; rintro e w' ⟨rfl, rfl⟩))
  have hU : ∀ k, (W0.alloc (.cells #[.pointer none] 23)).heap.size ≤ k → (fun k => W0.heap.size + 1 ≤ k) k := fun k hk => by simpa using hk
  have N1 := HN.out.call ((Below.refl _ W0).alloc (Nat.le_refl _) (.cells #[.pointer none] 23))
  refine wpIn_rangeFunc_ownG rfl (by omega) (gf := 53) (lb := #[.pointer (some ⟨W0.heap.size, 0, none⟩)]) rfl trivial (enters_of Try.func53 (by kernel_rfl) rfl)
    (all_stops_o (6 - 1) (by omega) W0.heap.size none 0 (fun k => W0.heap.size + 1 ≤ k) [] _ (by simp) hU (by simp) (.inl ⟨rfl, rfl, rfl⟩))
    chgK_t (chgK_b hU) (Below.refl _ _) (fun _ => rfl) _ (fun _ _ _ => False) (NF.own w _ (by have := N1.below.size; exact this)) (fun c => Own.from (fun s A B row hs hg hr => hs) _)
    ⟨⟨N1.h0, N1.h1, N1.h2⟩, N1.below⟩ ?a1 ?assign (fun l pre x W _ h => absurd h (Nat.not_lt_zero _)) ?done (fun D c pre W _ _ h _ => h.elim)
  case assign =>
    intro l x W K hK
    gi_wp2
    exact hK
  case done =>
    rintro D1 ys W hD rfl ⟨⟨m0, m1, m2⟩, mb⟩ hK1
    have HN2 : Hid (NF w W) := Lib.hid ⟨mb, m0, m1, m2⟩
    clear m0 m1 m2 mb
    have hKD := Lib.hid hK1
    gi_wp2_with fail
    refine ⟨trivial, ?_⟩
    refine (inW (keep_e _ W (.inl rfl))).mono ?_
    rintro e w5 ⟨rfl, hb5⟩
    have HN5 := Lib.hid (HN2.out.call hb5)
    gi_wp2_with fail
    refine ⟨trivial, ?_⟩
    refine (inW (same_loop none none 0 [] [] w5 (.inl ⟨rfl, rfl, rfl⟩) (.inl ⟨rfl, rfl, rfl⟩) rfl)).mono ?_
    rintro e w6 ⟨rfl, hb6⟩
    have HN6 := Lib.hid (HN5.out.call hb6)
    gi_wp2_with fail
    refine ⟨trivial, ?_⟩
    refine (inW (same_loop (some ⟨w.heap.size + 1, 0, none⟩) none 0 [] [] w6 (HN6.out.qo _ (by have := HN6.out.below.size; show ¬ w6.heap.size ≤ w.heap.size + 1; have := (Array.getElem?_eq_some_iff.1 HN6.out.h2).1; omega)) (.inl ⟨rfl, rfl, rfl⟩) rfl)).mono ?_
    rintro e w7 ⟨rfl, hb7⟩
    have HN7 := Lib.hid (HN6.out.call hb7)
    gi_wp2_with fail
    have hD7 : w7.heap[D1]? = some (.deferred (some [])) := blk_below hb7 (blk_below hb6 (blk_below hb5 hKD.out))
    have hl7 := (Array.getElem?_eq_some_iff.1 hD7).1
    have HD7 := Lib.hid hD7
    clear hD7 hK1 hKD hb5 hb6 hb7 HN5 HN6 HN2
    rw [roundsIn_succ]
    have a1 : w7.cell? ⟨w.heap.size + 1 + 1, 1, none⟩ = some (.pointer (some ⟨w.heap.size + 1, 0, none⟩)) := by simp [World.cell?, HN7.out.h2]
    have HE2 : Hid (QE w7 (some ⟨w.heap.size + 1, 0, none⟩)) := Lib.hid HN7.out.qe
    gi_wp2_with (first
      | (refine ⟨trivial, ?_⟩; gi_at_call 10; refine (inW (pop_e _ HE2.out)).mono ?_; rintro e w' ⟨rfl, rfl⟩)
      | (refine ⟨trivial, ?_⟩; gi_at_call 39; refine (inW (head_e _ HE2.out)).mono ?_; rintro e w' ⟨rfl, rfl⟩)
      | (refine ⟨trivial, ?_⟩; gi_at_call 40; refine (inW (at_e _ HE2.out _)).mono ?_; rintro e w' ⟨rfl, rfl⟩)
      | (refine ⟨trivial, ?_⟩; gi_at_call 41; refine (inW (drop_e _ HE2.out _)).mono ?_; rintro e w' ⟨rfl, rfl⟩)
      | (refine ⟨trivial, ?_⟩; gi_at_call 11; refine (inW (push_e _ HE2.out _)).mono ?_; rintro e w' ⟨rfl, rfl⟩)
      | (refine ⟨trivial, ?_⟩; gi_at_call 42; refine (inW (put_e _ HE2.out _ _)).mono ?_; rintro e w' ⟨rfl, rfl⟩)
      | (refine ⟨trivial, ?_⟩; gi_at_call 28; refine (inW (num_errno _ _)).mono ?_; rintro e w' ⟨rfl, rfl⟩)
      | (refine ⟨trivial, ?_⟩; gi_at_call 12; refine (inW (len_e _ HE2.out)).mono ?_; rintro e w' ⟨rfl, rfl⟩)
      | (refine ⟨trivial, ?_⟩; gi_at_call 13; refine (inW (room_e _ HE2.out)).mono ?_; rintro e w' ⟨rfl, rfl⟩)
      | (refine ⟨trivial, ?_⟩; gi_at_call 18; refine (inW (limit_e _ HE2.out)).mono ?_; rintro e w' ⟨rfl, rfl⟩)
      | (refine ⟨trivial, ?_⟩; gi_at_call 14; refine (inW (list_e _ HE2.out)).mono ?_; rintro e w' ⟨rfl, rfl⟩)
      | (refine ⟨trivial, ?_⟩; gi_at_call 20; refine (inW (clear_e _ HE2.out)).mono ?_; rintro e w' ⟨rfl, rfl⟩)
      | (refine ⟨trivial, ?_⟩; gi_at_call 21; refine (all_in _ (some ⟨w.heap.size + 1, 0, none⟩) w7).mono ?_; rintro e w' ⟨rfl, rfl⟩))
    have hU2 : ∀ k, (w7.alloc (.cells #[.pointer (some ⟨w.heap.size + 1, 0, none⟩)] 23)).heap.size ≤ k → (fun k => w7.heap.size + 1 ≤ k) k := fun k hk => by simpa using hk
    have hbA : Below w7.heap.size w7 (w7.alloc (.cells #[.pointer (some ⟨w.heap.size + 1, 0, none⟩)] 23)) := (Below.refl _ w7).alloc (Nat.le_refl _) _
    have N8 := HN7.out.call hbA
    have HBA := Lib.hid hbA
    have hlt7 : w.heap.size + 1 < w7.heap.size := by have := (Array.getElem?_eq_some_iff.1 HN7.out.h2).1; omega
    refine wpIn_rangeFunc_ownG rfl (by omega) (gf := 53) (lb := #[.pointer (some ⟨w7.heap.size, 0, none⟩)]) rfl trivial (enters_of Try.func53 (by kernel_rfl) rfl)
      (all_stops_o (6 - 1) (by omega) w7.heap.size (some ⟨w.heap.size + 1, 0, none⟩) 0 (fun k => w7.heap.size + 1 ≤ k) [] _ (by simp) hU2 (by simp) (N8.qo _ (by show ¬ w7.heap.size + 1 ≤ w.heap.size + 1; omega)))
      chgK_t (chgK_b hU2) (Below.refl _ _) (fun _ => rfl)
      (fun (pre : List (Nat × Int)) W => ((W.heap[w.heap.size]? = some (.cells #[.bool false] 4 (0, 0)) ∧ W.heap[w.heap.size + 1]? = some (.cells #[.slice none 0 0, .int .i64 0, .int .i64 0, .int .i64 0] 84 (0, 0)) ∧ W.heap[w.heap.size + 1 + 1]? = some (.cells #[.pointer none, .pointer (some ⟨w.heap.size + 1, 0, none⟩)] 23 (0, 0))) ∧ Below w.heap.size w W) ∧ W.heap[D1]? = some (.deferred (some [])))
      (fun _ _ _ => False)
      (OwnFrom.and (NF.own w _ (by have := N8.below.size; exact this)) (fun s A B row hs hg hr => (hg.block D1 (Array.getElem?_eq_some_iff.1 hs).1 (fun e => by have := (hr D1 e.symm).1; simp at this; omega)).trans hs))
      (fun c => Own.from (fun s A B row hs hg hr => hs) _)
      ⟨⟨⟨N8.h0, N8.h1, N8.h2⟩, N8.below⟩, blk_below hbA HD7.out⟩ ?a2 ?assign (fun l pre x W _ h => absurd h (Nat.not_lt_zero _)) ?done (fun D c pre W _ _ h _ => h.elim)
    case assign =>
      intro l x W K hK
      gi_wp2
      exact hK
    case done =>
      rintro D2 ys W8 hDD rfl ⟨⟨⟨m0, m1, m2⟩, mb⟩, hK1⟩ hK2
      have HN9 : Hid (NF w W8) := Lib.hid ⟨mb, m0, m1, m2⟩
      have HK1 := Lib.hid hK1
      have HK2 := Lib.hid hK2
      clear m0 m1 m2 mb hK1 hK2 HE HE2 HBA N8 hbA
      have hDl : w7.heap.size + 1 ≤ D2 := by simpa using hDD
      clear hDD
      gi_wp2_with fail
      refine ⟨trivial, ?_⟩
      refine (inW (keep_e _ W8 HN9.out.qe)).mono ?_
      rintro e w9 ⟨rfl, hb9⟩
      have HN10 := Lib.hid (HN9.out.call hb9)
      gi_wp2_with fail
      refine ⟨trivial, ?_⟩
      refine (inW (same_loop (some ⟨w.heap.size + 1, 0, none⟩) none 0 [] [] w9 (HN10.out.qo _ (by show ¬ w9.heap.size ≤ w.heap.size + 1; have := (Array.getElem?_eq_some_iff.1 HN10.out.h2).1; omega)) (.inl ⟨rfl, rfl, rfl⟩) rfl)).mono ?_
      rintro e w10 ⟨rfl, hb10⟩
      have HN11 := Lib.hid (HN10.out.call hb10)
      gi_wp2_with fail
      refine ⟨trivial, ?_⟩
      refine (inW (same_loop (some ⟨w.heap.size + 1, 0, none⟩) (some ⟨w.heap.size + 1, 0, none⟩) 0 [] [] w10 (HN11.out.qo _ (by show ¬ w10.heap.size ≤ w.heap.size + 1; have := (Array.getElem?_eq_some_iff.1 HN11.out.h2).1; omega)) (HN11.out.qo _ (by show ¬ w10.heap.size ≤ w.heap.size + 1; have := (Array.getElem?_eq_some_iff.1 HN11.out.h2).1; omega)) rfl)).mono ?_
      rintro e w11 ⟨rfl, hb11⟩
      have HN12 := Lib.hid (HN11.out.call hb11)
      gi_wp2_with fail
      rw [roundsIn_succ]
      gi_wp2_with fail
      refine ⟨trivial, ?_⟩
      refine (inW (new_ok 3 w11 (by omega) (by omega))).mono ?_
      rintro e w12 ⟨rfl, Q12, hb12⟩
      have HQ12 := Lib.hid Q12
      clear Q12
      gi_wp2_with fail
      have HF : Hid (QO (fun _ => False) w12 (some ⟨w11.heap.size, 0, none⟩) 3 []) := Lib.hid (.inr ⟨_, rfl, ⟨_, HQ12.out, fun k _ h => h⟩⟩)
      refine ⟨trivial, ?_⟩
      refine (inW (same_lim (U := fun _ => False) (V := fun _ => False) (some ⟨w11.heap.size, 0, none⟩) none 3 0 [] [] w12 HF.out (.inl ⟨rfl, rfl, rfl⟩) (by decide))).mono ?_
      rintro e w13 ⟨rfl, hb13⟩
      gi_wp2_with fail
      refine ⟨trivial, ?_⟩
      refine (inW (twin_nil w13)).mono ?_
      rintro e w' ⟨rfl, rfl⟩
      gi_wp2_with fail
      refine ⟨trivial, ?_⟩
      refine (inW (keep_nilfn _ w13)).mono ?_
      rintro e w14 ⟨rfl, hb14⟩
      gi_wp2_with fail
      refine ⟨trivial, ?_⟩
      refine (inW (works_ok w14)).mono ?_
      rintro e w15 ⟨rfl, hb15⟩
      have hall : Below W8.heap.size W8 w15 := below_call (below_call (below_call (below_call (below_call (below_call hb9 (Nat.le_refl _) hb10) (Nat.le_refl _) hb11) (Nat.le_refl _) hb12) (Nat.le_refl _) hb13) (Nat.le_refl _) hb14) (Nat.le_refl _) hb15
      have HN15 := Lib.hid (HN9.out.call hall)
      have HA1 := Lib.hid (blk_below hall HK1.out)
      have HA2 := Lib.hid (blk_below hall HK2.out)
      have r0 : w15.cell? ⟨w.heap.size, 0, none⟩ = some (.bool false) := by simp [World.cell?, HN15.out.h0]
      have rf : w15.frozen? ⟨w.heap.size, 0, none⟩ = false := by simp [World.frozen?, HN15.out.h0]
      clear hall hb9 hb10 hb11 hb12 hb13 hb14 hb15
      gi_wp2_with fail
      have hs1 := HN.out.below.size
      have hs2 := HN7.out.below.size
      have hd1 : w.heap.size ≤ D1 := by simp at hD; omega
      have hd2 : w.heap.size ≤ D2 := by omega
      have hne : D1 ≠ D2 := by omega
      have k2 := (KeepsOthers.setCell w15 ⟨w.heap.size, 0, none⟩ (.bool true)).same D2 _ HA2.out rfl
      have k1 := (KeepsOthers.setCell w15 ⟨w.heap.size, 0, none⟩ (.bool true)).same D1 _ HA1.out rfl
      have k1' : ((w15.setCell ⟨w.heap.size, 0, none⟩ (.bool true)).putObj D2 (.deferred none)).heap[D1]? = some (.deferred (some [])) := (World.putObj_heap_other hne).trans k1
      have c5 := cell_kept (World.cell?_setCell_same' w15 ⟨w.heap.size, 0, none⟩ (.bool true) (by rw [r0]; rfl)) (grownBy_putObj' _ D2 (.deferred none)) (fun r e => by cases e; exact ⟨_, k2, rfl⟩)
      have c6 := cell_kept c5 (grownBy_putObj' _ D1 (.deferred none)) (fun r e => by cases e; exact ⟨_, k1', rfl⟩)
      have hbz := ((HN15.out.below.setCell (p := ⟨w.heap.size, 0, none⟩) (Nat.le_refl _) (.bool true)).trans (belowK_b (w := w) (Nat.le_refl _) _ D2 _ (.deferred none) hd2 k2 rfl rfl)).trans (belowK_b (w := w) (Nat.le_refl _) _ D1 _ (.deferred none) hd1 k1' rfl rfl)
      refine ⟨by simp, .inl ⟨_, _, rfl, run_takeDeferred k2, ?_⟩⟩
      refine ⟨by simp, .inl ⟨_, _, rfl, run_takeDeferred k1', ?_⟩⟩
      refine ⟨.bool true, ?_, rfl, hbz⟩
      simp [results, Try.f8, go_sem, c6]
end Go.Proofs.Ytahaclglkbgpcaa
