/- Queues of ints: what asks no memory. -/
import Derived.Test.YtahaclglkbgpcaaFq0
set_option linter.unusedVariables false
set_option linter.unusedSimpArgs false
namespace Go.Proofs.Ytahaclglkbgpcaa
open Go.RowKit
set_option maxRecDepth 100000

/-- A queue in memory. -/
structure QI (w : World) (q : Nat) (T E : TypeId) (ring : Value) (n cap first many lim : Nat) (cells : List Value) : Prop where
  blk : w.heap[q]? = some (.cells #[ring, .int .i64 (first : Int), .int .i64 (many : Int), .int .i64 (lim : Int)] T (0, 0))
  own : w.ownsRow 0 E 1 ring n cells
  form : ring = .slice none 0 0 ∧ n = 0 ∧ first = 0 ∨ ∃ g, ring = .slice (some ⟨g, 0, none⟩) n cap ∧ g ≠ q ∧ first < n
  many_le : many ≤ n
  n_le : n ≤ lim
  lim_le : lim ≤ 4096

section
variable {w : World} {q : Nat} {T E : TypeId} {ring : Value} {n cap first many lim : Nat} {cells : List Value}
theorem QI.c0 (h : QI w q T E ring n cap first many lim cells) : w.cell? ⟨q, 0, none⟩ = some ring := by simp [World.cell?, h.blk]
theorem QI.c1 (h : QI w q T E ring n cap first many lim cells) : w.cell? ⟨q, 1, none⟩ = some (.int .i64 (first : Int)) := by simp [World.cell?, h.blk]
theorem QI.c2 (h : QI w q T E ring n cap first many lim cells) : w.cell? ⟨q, 2, none⟩ = some (.int .i64 (many : Int)) := by simp [World.cell?, h.blk]
theorem QI.c3 (h : QI w q T E ring n cap first many lim cells) : w.cell? ⟨q, 3, none⟩ = some (.int .i64 (lim : Int)) := by simp [World.cell?, h.blk]
theorem QI.fz (h : QI w q T E ring n cap first many lim cells) (o : Nat) : w.frozen? ⟨q, o, none⟩ = false := by simp [World.frozen?, h.blk]
theorem QI.lt (h : QI w q T E ring n cap first many lim cells) : q < w.heap.size := (Array.getElem?_eq_some_iff.1 h.blk).1
theorem QI.len (h : QI w q T E ring n cap first many lim cells) : cells.length = n := by have := h.own.1; omega
end

theorem QI.chg {w w' : World} {q : Nat} {T E : TypeId} {ring : Value} {n cap first many lim : Nat} {cells : List Value} (h : QI w q T E ring n cap first many lim cells) {S : Nat → Prop} (hc : Chg S w w') (h1 : ¬ S q) (h2 : ∀ k, ring.ownBlock = some k → ¬ S k) : QI w' q T E ring n cap first many lim cells := by
  refine ⟨hc.heap h.blk h1, ?_, h.form, h.many_le, h.n_le, h.lim_le⟩
  refine ⟨h.own.1, h.own.2.imp id ?_⟩
  rintro ⟨g, c, cur, e, hb, hg, h3⟩
  exact ⟨g, c, cur, e, hb, hc.heap hg (h2 g (by rw [e]; rfl)), h3⟩

theorem QI.below {w w' : World} {q : Nat} {T E : TypeId} {ring : Value} {n cap first many lim : Nat} {cells : List Value} (h : QI w q T E ring n cap first many lim cells) (hb : Below w.heap.size w w') : QI w' q T E ring n cap first many lim cells :=
  h.chg (Chg.ofBelow hb (fun _ => False)) (fun f => f) (fun _ _ f => f)

theorem QI.heap {w w' : World} {q : Nat} {T E : TypeId} {ring : Value} {n cap first many lim : Nat} {cells : List Value} (h : QI w q T E ring n cap first many lim cells) (e : w'.heap = w.heap) : QI w' q T E ring n cap first many lim cells := by
  refine ⟨by rw [e]; exact h.blk, ?_, h.form, h.many_le, h.n_le, h.lim_le⟩
  refine ⟨h.own.1, h.own.2.imp id ?_⟩
  rintro ⟨g, c, cur, e1, hb, hg, h3⟩
  exact ⟨g, c, cur, e1, hb, by rw [e]; exact hg, h3⟩

theorem Chg.setCell {S : Nat → Prop} {a b : World} (h : Chg S a b) (p : Addr) (v : Value) (hp : S p.block) : Chg S a (b.setCell p v) :=
  h.trans ⟨rfl, rfl, rfl, by simp, fun k _ hn => heap_setCell_other b p k v (fun e => hn (by first | (rw [e]; exact hp) | (rw [← e]; exact hp)))⟩

theorem QI.setRing {w : World} {q g : Nat} {T E : TypeId} {n cap first many lim : Nat} {cells : List Value} (h : QI w q T E (.slice (some ⟨g, 0, none⟩) n cap) n cap first many lim cells) (hne : g ≠ q) (j : Nat) (v : Value) : QI (w.setCell ⟨g, j, none⟩ v) q T E (.slice (some ⟨g, 0, none⟩) n cap) n cap first many lim (cells.set j v) := by
  obtain ⟨r1, r2⟩ := h.own.stored j v
  exact ⟨by rw [heap_setCell_other _ _ _ _ (by simpa using hne.symm)]; exact h.blk, r1, h.form, h.many_le, h.n_le, h.lim_le⟩

theorem QI.set1 {w : World} {q : Nat} {T E : TypeId} {ring : Value} {n cap first many lim : Nat} {cells : List Value} (h : QI w q T E ring n cap first many lim cells) (f : Nat) (hf : f < n) : QI (w.setCell ⟨q, 1, none⟩ (.int .i64 (f : Int))) q T E ring n cap f many lim cells := by
  have e := heap_setCell_same w q 1 _ T (.int .i64 (f : Int)) h.blk
  rcases h.form with ⟨_, h0, _⟩ | ⟨g, hr, hg, _⟩
  · omega
  · refine ⟨e, ?_, .inr ⟨g, hr, hg, hf⟩, h.many_le, h.n_le, h.lim_le⟩
    refine ⟨h.own.1, h.own.2.imp id ?_⟩
    rintro ⟨g', c, cur, e1, hb, hg', h3⟩
    have : g' = g := by rw [hr] at e1; simp at e1; exact e1.1.symm
    subst this
    exact ⟨g', c, cur, e1, hb, by rw [heap_setCell_other _ _ _ _ (by simpa using hg)]; exact hg', h3⟩

theorem QI.set2 {w : World} {q : Nat} {T E : TypeId} {ring : Value} {n cap first many lim : Nat} {cells : List Value} (h : QI w q T E ring n cap first many lim cells) (m : Nat) (hm : m ≤ n) : QI (w.setCell ⟨q, 2, none⟩ (.int .i64 (m : Int))) q T E ring n cap first m lim cells := by
  have e := heap_setCell_same w q 2 _ T (.int .i64 (m : Int)) h.blk
  refine ⟨e, ?_, h.form, hm, h.n_le, h.lim_le⟩
  refine ⟨h.own.1, h.own.2.imp id ?_⟩
  rintro ⟨g', c, cur, e1, hb, hg', h3⟩
  have hne : g' ≠ q := by
    rcases h.form with ⟨h0, _⟩ | ⟨g, hr, hg, _⟩
    · rw [h0] at e1; simp at e1
    · rw [hr] at e1; simp at e1; omega
  exact ⟨g', c, cur, e1, hb, by rw [heap_setCell_other _ _ _ _ (by simpa using hne)]; exact hg', h3⟩

/-- A new ring. -/
theorem QI.newRing {w : World} {q g : Nat} {T E : TypeId} {ring : Value} {n cap first many lim n' : Nat} {cells c' : List Value} (h : QI w q T E ring n cap first many lim cells) (hown : w.ownsRow 0 E 1 (.slice (some ⟨g, 0, none⟩) n' n') n' c') (hne : g ≠ q) (h0 : 0 < n') (hm : many ≤ n') (hl : n' ≤ lim) :
    QI ((w.setCell ⟨q, 0, none⟩ (.slice (some ⟨g, 0, none⟩) n' n')).setCell ⟨q, 1, none⟩ (.int .i64 0)) q T E (.slice (some ⟨g, 0, none⟩) n' n') n' n' 0 many lim c' ∧
    QI ((w.setCell ⟨q, 1, none⟩ (.int .i64 0)).setCell ⟨q, 0, none⟩ (.slice (some ⟨g, 0, none⟩) n' n')) q T E (.slice (some ⟨g, 0, none⟩) n' n') n' n' 0 many lim c' := by
  have o : ∀ a v b u, (((w.setCell ⟨q, a, none⟩ v).setCell ⟨q, b, none⟩ u)).ownsRow 0 E 1 (.slice (some ⟨g, 0, none⟩) n' n') n' c' := by
    intro a v b u
    refine ⟨hown.1, hown.2.imp id ?_⟩
    rintro ⟨g', c, cur, e1, hb, hg', h3⟩
    have : g' = g := by simp at e1; exact e1.1.symm
    subst this
    exact ⟨g', c, cur, e1, hb, by rw [heap_setCell_other _ _ _ _ (by simpa using hne), heap_setCell_other _ _ _ _ (by simpa using hne)]; exact hg', h3⟩
  refine ⟨⟨?_, o _ _ _ _, .inr ⟨g, rfl, hne, h0⟩, hm, hl, h.lim_le⟩, ⟨?_, o _ _ _ _, .inr ⟨g, rfl, hne, h0⟩, hm, hl, h.lim_le⟩⟩
  · exact heap_setCell_same _ q 1 _ T (.int .i64 0) (heap_setCell_same w q 0 _ T (.slice (some ⟨g, 0, none⟩) n' n') h.blk)
  · exact heap_setCell_same _ q 0 _ T (.slice (some ⟨g, 0, none⟩) n' n') (heap_setCell_same w q 1 _ T (.int .i64 0) h.blk)

/-- What copy does to an owned row. -/
theorem owns_copied {w : World} {E : TypeId} {g n' : Nat} {xs cs : List Value} (hown : w.ownsRow 0 E 1 (.slice (some ⟨g, 0, none⟩) n' n') n' xs) : ∃ cur, w.heap[g]? = some (.cells cur E (0, 0)) ∧ cur.size = n' ∧ cur.toList = xs ∧
    (cs.length ≤ n' → (w.setRow g (cur.toList.take 0 ++ (cs ++ cur.toList.drop (0 + cs.length))).toArray).ownsRow 0 E 1 (.slice (some ⟨g, 0, none⟩) n' n') n' (cs ++ xs.drop cs.length)) := by
  rcases hown.2 with ⟨h', _⟩ | ⟨g', cap', cur, h', hb, hg, hnc, hcm, hcs, htake⟩
  · simp at h'
  · simp only [Value.slice.injEq, Option.some.injEq, Addr.mk.injEq, and_true, true_and] at h'
    obtain ⟨rfl, rfl⟩ := h'
    have e1 : cur.toList = xs := by rw [← htake, List.take_of_length_le (by simp; omega)]
    refine ⟨cur, hg, by omega, e1, fun hc => ⟨?_, .inr ⟨g, n', _, rfl, Nat.zero_le _, setRow_heap _ _ _ _ _ _ hg, hnc, hcm, ?_, ?_⟩⟩⟩
    · have := hown.1; simp; omega
    · have := hown.1; simp [e1]; omega
    · have := hown.1
      rw [List.take_of_length_le (by simp [e1]; omega)]
      simp [e1]

theorem has_t (q : Nat) (i many : Int) (w : World) (c2 : w.cell? ⟨q, 2, none⟩ = some (.int .i64 many)) (h0 : 0 ≤ i) (h1 : i < many) :
    Calls Try.prog 45 #[.pointer (some ⟨q, 0, none⟩), .int .i64 i] w fun e w' => e = .returned (.bool true) ∧ w = w' := by
  have t0 : decide (0 ≤ i) = true := by simpa
  have t1 : decide (i < many) = true := by simpa
  go_enter Try.func45, Try.ntmps45
  go_wp2_with fail
  go_ret
  exact ⟨rfl, rfl⟩

theorem has_lo (q : Nat) (i : Int) (w : World) (h0 : i < 0) :
    Calls Try.prog 45 #[.pointer (some ⟨q, 0, none⟩), .int .i64 i] w fun e w' => e = .returned (.bool false) ∧ w = w' := by
  have t0 : decide (0 ≤ i) = false := by simp; omega
  clear h0
  go_enter Try.func45, Try.ntmps45
  go_wp2_with fail
  go_ret
  exact ⟨rfl, rfl⟩

theorem has_hi (q : Nat) (i many : Int) (w : World) (c2 : w.cell? ⟨q, 2, none⟩ = some (.int .i64 many)) (h0 : 0 ≤ i) (h1 : many ≤ i) :
    Calls Try.prog 45 #[.pointer (some ⟨q, 0, none⟩), .int .i64 i] w fun e w' => e = .returned (.bool false) ∧ w = w' := by
  have t0 : decide (0 ≤ i) = true := by simpa
  have t1 : decide (i < many) = false := by simp; omega
  clear h1
  go_enter Try.func45, Try.ntmps45
  go_wp2_with fail
  go_ret
  exact ⟨rfl, rfl⟩

theorem has_nil (i : Int) (w : World) :
    Calls Try.prog 45 #[.pointer none, .int .i64 i] w fun e w' => e = .returned (.bool false) ∧ w = w' := by
  go_enter Try.func45, Try.ntmps45
  go_wp2_with fail
  go_ret
  exact ⟨rfl, rfl⟩

theorem at_q (q : Nat) (ra : Option Addr) (cap' : Nat) (i first cap : Nat) (w : World) (h1 : cap ≤ 4096) (h2 : first < cap) (h3 : i ≤ cap)
  (c0 : w.cell? ⟨q, 0, none⟩ = some (.slice ra cap cap')) (c1 : w.cell? ⟨q, 1, none⟩ = some (.int .i64 first)) :
    Calls Try.prog 46 #[.pointer (some ⟨q, 0, none⟩), .int .i64 i] w fun e w' => e = .returned (.int .i64 (((first + i) % cap : Nat) : Int)) ∧ ∃ d, w' = w.drewN d := by
  have t0 : (((cap : Int)) == 0) = false := by simp; omega
  go_enter Try.func46, Try.ntmps46
  go_wp2_with (go_quiet (fail))
  all_goals go_ret
  all_goals (refine ⟨?_, _, rfl⟩; exact ret_int (by push_cast; rfl))

theorem at_ok (q : Nat) (ra : Option Addr) (cap' : Nat) (i first cap : Nat) (w : World) (h1 : cap ≤ 4096) (h2 : first < cap) (h3 : i ≤ cap)
  (c0 : w.cell? ⟨q, 0, none⟩ = some (.slice ra cap cap')) (c1 : w.cell? ⟨q, 1, none⟩ = some (.int .i64 first)) :
    Calls Try.prog 46 #[.pointer (some ⟨q, 0, none⟩), .int .i64 i] w fun e w' => e = .returned (.int .i64 (((first + i) % cap : Nat) : Int)) ∧ Below w.heap.size w w' := by
  refine (at_q q ra cap' i first cap w h1 h2 h3 c0 c1).mono ?_
  rintro e w' ⟨rfl, d, rfl⟩
  exact ⟨rfl, below_drewN' (Below.refl _ w) _⟩

theorem len_ok (q : Nat) (many : Int) (w : World) (c2 : w.cell? ⟨q, 2, none⟩ = some (.int .i64 many)) :
    Calls Try.prog 12 #[.pointer (some ⟨q, 0, none⟩)] w fun e w' => e = .returned (.int .i64 many) ∧ w = w' := by
  go_enter Try.func12, Try.ntmps12
  go_wp2_with fail
  go_ret
  exact ⟨rfl, rfl⟩

theorem len_nil (w : World) :
    Calls Try.prog 12 #[.pointer none] w fun e w' => e = .returned (.int .i64 0) ∧ w = w' := by
  go_enter Try.func12, Try.ntmps12
  go_wp2_with fail
  go_ret
  exact ⟨rfl, rfl⟩

theorem limit_ok (q : Nat) (lim : Int) (w : World) (c3 : w.cell? ⟨q, 3, none⟩ = some (.int .i64 lim)) :
    Calls Try.prog 18 #[.pointer (some ⟨q, 0, none⟩)] w fun e w' => e = .returned (.int .i64 lim) ∧ w = w' := by
  go_enter Try.func18, Try.ntmps18
  go_wp2_with fail
  go_ret
  exact ⟨rfl, rfl⟩

theorem limit_nil (w : World) :
    Calls Try.prog 18 #[.pointer none] w fun e w' => e = .returned (.int .i64 0) ∧ w = w' := by
  go_enter Try.func18, Try.ntmps18
  go_wp2_with fail
  go_ret
  exact ⟨rfl, rfl⟩

theorem room_ok (q : Nat) (many lim : Nat) (w : World) (c2 : w.cell? ⟨q, 2, none⟩ = some (.int .i64 many)) (c3 : w.cell? ⟨q, 3, none⟩ = some (.int .i64 lim)) (h1 : many ≤ lim) (h2 : lim ≤ 4096) :
    Calls Try.prog 13 #[.pointer (some ⟨q, 0, none⟩)] w fun e w' => e = .returned (.int .i64 ((lim - many : Nat) : Int)) ∧ w = w' := by
  go_enter Try.func13, Try.ntmps13
  go_wp2_with fail
  refine (limit_ok q lim w c3).mono ?_
  rintro e w1 ⟨rfl, rfl⟩
  go_wp2_with fail
  refine (len_ok q many w c2).mono ?_
  rintro e w1 ⟨rfl, rfl⟩
  go_wp2_with fail
  go_ret
  refine ⟨?_, rfl⟩
  exact ret_int (by omega)

theorem room_nil (w : World) :
    Calls Try.prog 13 #[.pointer none] w fun e w' => e = .returned (.int .i64 0) ∧ w = w' := by
  go_enter Try.func13, Try.ntmps13
  go_wp2_with fail
  refine (limit_nil w).mono ?_
  rintro e w1 ⟨rfl, rfl⟩
  go_wp2_with fail
  refine (len_nil w).mono ?_
  rintro e w1 ⟨rfl, rfl⟩
  go_wp2_with fail
  go_ret
  exact ⟨rfl, rfl⟩

end Go.Proofs.Ytahaclglkbgpcaa
