/- FifoTwins: what is carried. -/
import Derived.Test.YtahaclglkbgpcaaFqT2
import Derived.Test.YtahaclglkbgpcaaFqNone
set_option linter.unusedVariables false
set_option linter.unusedSimpArgs false
namespace Go.Proofs.Ytahaclglkbgpcaa
open Go.RowKit Go.Shelf
set_option maxRecDepth 100000

theorem QI.kept {A B : World} {row : Option Nat} {q : Nat} {T E : TypeId} {ring : Value} {n cap first many lim : Nat} {cells : List Value} (h : QI A q T E ring n cap first many lim cells) (hg : A.grownBy B row) (hr : ∀ r, row = some r → ∃ o : Obj, A.heap[r]? = some o ∧ o.isCells = false) : QI B q T E ring n cap first many lim cells := by
  refine ⟨blk_kept h.blk hg hr, ?_, h.form, h.many_le, h.n_le, h.lim_le⟩
  refine ⟨h.own.1, h.own.2.imp id ?_⟩
  rintro ⟨g, c, cur, e, hb, hgg, h3⟩
  exact ⟨g, c, cur, e, hb, blk_kept hgg hg hr, h3⟩

theorem Qu.cells {El : Value → Prop} {T E : TypeId} {w : World} {q lim : Nat} {vs : List Value} {S : Nat → Prop} (h : Qu El T E w q lim vs S) {k : Nat} (hk : S k) : ∃ o : Obj, w.heap[k]? = some o ∧ o.isCells = true := by
  obtain ⟨ring, n, cap, first, cells, h1, h2, h3, h4⟩ := h
  rcases (h4 k).1 hk with rfl | h
  · exact ⟨_, h1.blk, rfl⟩
  · rcases h1.own.2 with ⟨e, _⟩ | ⟨g, c, cur, e, hb, hg, _⟩
    · rw [e] at h; simp [Value.ownBlock] at h
    · rw [e] at h; simp [Value.ownBlock] at h; subst h; exact ⟨_, hg, rfl⟩

/-- What a call that turns a queue's blocks alone keeps. -/
theorem Qu.keeps {El : Value → Prop} {T E : TypeId} {w w' : World} {q lim : Nat} {vs : List Value} {S : Nat → Prop} (h : Qu El T E w q lim vs S) (hc : Chg S w w') (B : Nat) : KeepsFrom B w w' :=
  ⟨hc.size, fun k o _ hk ho => by
    refine (hc.block k (Array.getElem?_eq_some_iff.1 hk).1 (fun hs => ?_)).trans hk
    obtain ⟨o', h1, h2⟩ := h.cells hs
    rw [hk] at h1
    cases h1
    rw [ho] at h2
    cases h2⟩

/-- The walk's state: the boxes of v, the result and q; the queue q. -/
structure TW (v : Int) (w : World) (q qb lim : Nat) (vs : List Value) (W : World) : Prop where
  below : Below w.heap.size w W
  hv : W.heap[w.heap.size]? = some (.cells #[.int .i64 v] 3 (0, 0))
  hr : W.heap[w.heap.size + 1]? = some (.cells #[.bool false] 4 (0, 0))
  hq : W.heap[qb]? = some (.cells #[.pointer (some ⟨q, 0, none⟩)] 23 (0, 0))
  lo : w.heap.size + 2 ≤ qb
  ex : ∃ S, Qu IsI 84 3 W q lim vs S ∧ ∀ k, S k → w.heap.size + 2 ≤ k ∧ k ≠ qb

section
variable {v : Int} {w : World} {q qb lim : Nat} {vs : List Value} {W W' : World}
theorem TW.call (h : TW v w q qb lim vs W) (hb : Below W.heap.size W W') : TW v w q qb lim vs W' := by
  obtain ⟨S, h1, h2⟩ := h.ex
  exact ⟨below_call h.below (Nat.le_refl _) hb, blk_below hb h.hv, blk_below hb h.hr, blk_below hb h.hq, h.lo, S, h1.below hb, h2⟩
theorem TW.drew (h : TW v w q qb lim vs W) (n : Nat) : TW v w q qb lim vs (W.drewN n) := by
  obtain ⟨S, h1, h2⟩ := h.ex
  exact ⟨below_drewN' h.below _, h.hv, h.hr, h.hq, h.lo, S, h1.heap rfl, h2⟩
/-- What a change of other blocks keeps. -/
theorem TW.other (h : TW v w q qb lim vs W) {U : Nat → Prop} (hc : Chg U W W') (hb : Below w.heap.size w W') (hU : ∀ k, U k → w.heap.size + 2 ≤ k ∧ k ≠ qb) (hd : ∀ S, Qu IsI 84 3 W q lim vs S → ∀ k, S k → ¬ U k) : TW v w q qb lim vs W' := by
  obtain ⟨S, h1, h2⟩ := h.ex
  refine ⟨hb, hc.heap h.hv (fun h => ?_), hc.heap h.hr (fun h => ?_), hc.heap h.hq (fun h => (hU _ h).2 rfl), h.lo, S, h1.chg hc (hd S h1), h2⟩
  · have := (hU _ h).1; omega
  · have := (hU _ h).1; omega
theorem TW.cv (h : TW v w q qb lim vs W) : W.cell? ⟨w.heap.size, 0, none⟩ = some (.int .i64 v) := by simp [World.cell?, h.hv]
theorem TW.cr (h : TW v w q qb lim vs W) : W.cell? ⟨w.heap.size + 1, 0, none⟩ = some (.bool false) := by simp [World.cell?, h.hr]
theorem TW.fr (h : TW v w q qb lim vs W) : W.frozen? ⟨w.heap.size + 1, 0, none⟩ = false := by simp [World.frozen?, h.hr]
theorem TW.cq (h : TW v w q qb lim vs W) : W.cell? ⟨qb, 0, none⟩ = some (.pointer (some ⟨q, 0, none⟩)) := by simp [World.cell?, h.hq]
theorem TW.qlt (h : TW v w q qb lim vs W) : qb < W.heap.size := (Array.getElem?_eq_some_iff.1 h.hq).1

theorem TW.push (h0 : TW v w q qb lim vs W) (x : Int) (hm : vs.length < lim) :
    Calls Try.prog 11 #[.pointer (some ⟨q, 0, none⟩), .int .i64 x] W fun e W' => e = .returned .nilIface ∧ TW v w q qb lim (vs ++ [.int .i64 x]) W' ∧ KeepsFrom w.heap.size W W' ∧ ∃ S, Qu IsI 84 3 W q lim vs S ∧ (∀ k, S k → w.heap.size + 2 ≤ k ∧ k ≠ qb) ∧ Chg S W W' := by
  have h := h0
  obtain ⟨S, h1, h2⟩ := h.ex
  refine (push_ok _ x h1 hm).mono ?_
  rintro e W' ⟨rfl, S', Q', C', F'⟩
  have hlo : ∀ k, ¬ (w.heap.size + 2 ≤ k ∧ k ≠ qb) → ¬ S k := fun k hk hs => hk (h2 k hs)
  refine ⟨rfl, ⟨h.below.trans (C'.below h.below.size (fun k hk => by have := (h2 k hk).1; omega)), C'.heap h.hv (hlo _ (by omega)), C'.heap h.hr (hlo _ (by omega)), C'.heap h.hq (hlo _ (by omega)), h.lo, S', Q', ?_⟩, h1.keeps C' _, S, h1, h2, C'⟩
  intro k hk
  rcases F' k hk with h | h
  · exact h2 k h
  · have h4 := h0.qlt
    have h5 := h0.lo
    omega
end

/-- The invariant of the last loop: behind a round the queue is one longer. -/
def behind (vs : List Value) (x : Int) (pre : List (Nat × Int)) : List Value := if pre.length = 0 then vs else vs ++ [.int .i64 x]

def TI (v x : Int) (w : World) (q qb lim : Nat) (vs : List Value) (mb Bs : Nat) (pre : List (Nat × Int)) (W : World) : Prop :=
  TW v w q qb lim (behind vs x pre) W ∧ W.heap[mb]? = some (.cells #[.int .i64 (pre.length : Int)] 3 (0, 0)) ∧ W.heap[Bs]? = some (.cells #[.pointer (some ⟨q, 0, none⟩)] 23 (0, 0))

theorem TI.own (v x : Int) (w : World) (q qb lim : Nat) (vs : List Value) (mb Bs : Nat) (B : Nat) (hB : w.heap.size ≤ B) : OwnFrom B (TI v x w q qb lim vs mb Bs) := by
  intro pre A C row hs hg hr
  have hr' : ∀ r, row = some r → ∃ o : Obj, A.heap[r]? = some o ∧ o.isCells = false := fun r e => (hr r e).2
  obtain ⟨h, hm, hbx⟩ := hs
  obtain ⟨S, h1, h2⟩ := h.ex
  obtain ⟨ring, n, cap, first, cells, e1, e2, e3, e4⟩ := h1
  exact ⟨⟨ownFrom_below (β := Unit) (Nat.le_refl _) hB () A C row h.below hg hr, blk_kept h.hv hg hr', blk_kept h.hr hg hr', blk_kept h.hq hg hr', h.lo, S, ⟨ring, n, cap, first, cells, e1.kept hg hr', e2, e3, e4⟩, h2⟩, blk_kept hm hg hr', blk_kept hbx hg hr'⟩

theorem TI.word {v x : Int} {w : World} {q qb lim : Nat} {vs : List Value} {mb Bs : Nat} (hI : ∀ u ∈ vs, IsI u) {pre : List (Nat × Int)} {W : World} (h : TI v x w q qb lim vs mb Bs pre W) : TT Bs q lim (fun k => if k = 0 then vs.length else vs.length + 1) pre W := by
  obtain ⟨h, hm, hbx⟩ := h
  refine ⟨by simp [World.cell?, hbx], ?_⟩
  obtain ⟨S, h1, h2⟩ := h.ex
  have hall : ∀ u ∈ behind vs x pre, IsI u := by
    unfold behind
    split
    · exact hI
    · intro u hu
      rcases List.mem_append.1 hu with h | h
      · exact hI u h
      · simp at h; exact ⟨x, h⟩
  obtain ⟨ys, hy⟩ : ∃ ys : List Int, behind vs x pre = ys.map (Value.int .i64) := by
    generalize behind vs x pre = l at hall
    clear h1
    induction l with
    | nil => exact ⟨[], rfl⟩
    | cons u l ih =>
      obtain ⟨ys, hy⟩ := ih (fun z hz => hall z (List.mem_cons_of_mem _ hz))
      obtain ⟨z, rfl⟩ := hall u (List.mem_cons_self ..)
      exact ⟨z :: ys, by simp [hy]⟩
  rw [hy] at h1
  refine ⟨ys, ⟨S, h1, fun _ _ h => h⟩, ?_⟩
  have := congrArg List.length hy
  unfold behind at this
  rw [List.length_map] at this
  rw [← this]
  by_cases h0 : pre.length = 0 <;> simp [h0]
end Go.Proofs.Ytahaclglkbgpcaa
