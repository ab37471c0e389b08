/- FifoTwins: a queue and its twin. -/
import Derived.Test.YtahaclglkbgpcaaFqT3
set_option linter.unusedVariables false
set_option linter.unusedSimpArgs false
namespace Go.Proofs.Ytahaclglkbgpcaa
open Go.RowKit Go.Shelf
set_option maxRecDepth 100000

theorem same_len {U V : Nat → Prop} (p r : Option Addr) (lim : Nat) (zs ys : List Int) (w : World) (h1 : QO U w p lim zs) (h2 : QO V w r lim ys) (hne : zs.length ≠ ys.length) :
    Calls Try.prog 17 #[.pointer p, .pointer r] w fun e w' => e = .returned (.bool false) ∧ Below w.heap.size w w' := by
  have H1 := Lib.hid h1
  have H2 := Lib.hid h2
  clear h1 h2
  obtain ⟨l1, e1⟩ : ∃ l1, l1 = zs.length := ⟨_, rfl⟩
  obtain ⟨l2, e2⟩ : ∃ l2, l2 = ys.length := ⟨_, rfl⟩
  rw [← e1, ← e2] at hne
  have E1 := Lib.hid e1
  have E2 := Lib.hid e2
  clear e1 e2
  have t : ((l1 : Int) == (l2 : Int)) = false := by
    have : (l1 : Int) ≠ l2 := by omega
    simpa using this
  have t2 : ((l1 : Int) != (l2 : Int)) = true := by simp only [bne, t, Bool.not_false]
  go_enter Try.func17, Try.ntmps17
  go_wp2_with fail
  obtain ⟨W0, hW0⟩ : ∃ W0, W0 = (w.alloc (.cells #[.pointer r] 23)).alloc (.cells #[.bool false] 4) := ⟨_, rfl⟩
  rw [← hW0]
  have hs0 : W0.heap.size = w.heap.size + 2 := by rw [hW0]; simp
  have hB0 : Below w.heap.size w W0 := by rw [hW0]; exact ((Below.refl _ w).alloc (Nat.le_refl _) _).alloc (by simp) _
  have hB0' : Below w.heap.size w W0 := hB0
  have c3 : W0.cell? ⟨w.heap.size, 0, none⟩ = some (.pointer r) := by rw [hW0, World.cell?_alloc_lt _ _ _ (by simp)]; simp
  have c4 : W0.cell? ⟨w.heap.size + 1, 0, none⟩ = some (.bool false) := by rw [hW0, World.cell?_alloc_at _ _ _ _ (by simp)]; rfl
  have f4 : W0.frozen? ⟨w.heap.size + 1, 0, none⟩ = false := by rw [hW0]; simp only [frozen?_alloc_cells]; simp [World.frozen?]
  have HA1 := Lib.hid (H1.out.below hB0)
  have HA2 := Lib.hid (H2.out.below hB0)
  clear hW0
  have L1 : ∀ n, Calls Try.prog 18 #[.pointer p] (W0.drewN n) fun e w' => e = .returned (.int .i64 (lim : Int)) ∧ ∃ m, w' = W0.drewN m := fun n => (limit_o (W0.drewN n) (HA1.out.heap rfl)).mono fun e w' ⟨h1, h2⟩ => ⟨h1, n, h2.symm⟩
  have L2 : ∀ n, Calls Try.prog 18 #[.pointer r] (W0.drewN n) fun e w' => e = .returned (.int .i64 (lim : Int)) ∧ ∃ m, w' = W0.drewN m := fun n => (limit_o (W0.drewN n) (HA2.out.heap rfl)).mono fun e w' ⟨h1, h2⟩ => ⟨h1, n, h2.symm⟩
  have N1 : ∀ n, Calls Try.prog 12 #[.pointer p] (W0.drewN n) fun e w' => e = .returned (.int .i64 (l1 : Int)) ∧ ∃ m, w' = W0.drewN m := fun n => (len_o (W0.drewN n) (HA1.out.heap rfl)).mono fun e w' ⟨h1, h2⟩ => ⟨by rw [h1, E1.out], n, h2.symm⟩
  have N2 : ∀ n, Calls Try.prog 12 #[.pointer r] (W0.drewN n) fun e w' => e = .returned (.int .i64 (l2 : Int)) ∧ ∃ m, w' = W0.drewN m := fun n => (len_o (W0.drewN n) (HA2.out.heap rfl)).mono fun e w' ⟨h1, h2⟩ => ⟨by rw [h1, E2.out], n, h2.symm⟩
  have HL1 := Lib.hid L1; have HL2 := Lib.hid L2; have HN1 := Lib.hid N1; have HN2 := Lib.hid N2
  clear L1 L2 N1 N2
  go_quiet (first
    | (go_at_call 18; with_reducible exact HL1.out _)
    | (go_at_call 18; with_reducible exact HL2.out _)
    | (go_at_call 12; with_reducible exact HN1.out _)
    | (go_at_call 12; with_reducible exact HN2.out _))
  obtain ⟨W1, hW1⟩ : ∃ x, x = W0.drewN nq := ⟨_, rfl⟩
  rw [← hW1]
  replace c4 : W1.cell? ⟨w.heap.size + 1, 0, none⟩ = some (.bool false) := by rw [hW1]; exact c4
  replace f4 : W1.frozen? ⟨w.heap.size + 1, 0, none⟩ = false := by rw [hW1]; exact f4
  have hB1 : Below w.heap.size w W1 := by rw [hW1]; exact below_drewN' hB0' _
  clear hW1 hB0 hB0' hs0 HA1 HA2 HL1 HL2
  go_wp2_with fail
  refine bodyPost_ret (v := .bool false) (by simp [results, Try.results17, go_sem, c4]) rfl ⟨rfl, hB1.setCell (p := ⟨w.heap.size + 1, 0, none⟩) (by simp) _⟩

theorem Qu.uniq {El : Value → Prop} {T E : TypeId} {w : World} {q lim lim' : Nat} {vs vs' : List Value} {S S' : Nat → Prop} (h : Qu El T E w q lim vs S) (h' : Qu El T E w q lim' vs' S') {k : Nat} (hk : S k) : S' k := by
  obtain ⟨ring, n, cap, first, cells, h1, h2, h3, h4⟩ := h
  obtain ⟨ring', n', cap', first', cells', g1, g2, g3, g4⟩ := h'
  have e : ring = ring' := by have := h1.c0; rw [g1.c0] at this; simpa using this.symm
  subst e
  exact (g4 k).2 ((h4 k).1 hk)

/-- The queue and its twin. -/
structure TP (v : Int) (w : World) (q qb lim : Nat) (vq vt : List Value) (tb : Nat) (W : World) : Prop where
  tw : TW v w q qb lim vq W
  two : ∃ S S', Qu IsI 84 3 W q lim vq S ∧ Qu IsI 84 3 W tb lim vt S' ∧ (∀ k, S k → ¬ S' k) ∧ (∀ k, S' k → w.heap.size + 2 ≤ k ∧ k ≠ qb) ∧ (∀ k, S k → w.heap.size + 2 ≤ k ∧ k ≠ qb)

section
variable {v : Int} {w : World} {q qb lim : Nat} {vq vt : List Value} {tb : Nat} {W W' : World}
theorem TP.call (h : TP v w q qb lim vq vt tb W) (hb : Below W.heap.size W W') : TP v w q qb lim vq vt tb W' := by
  obtain ⟨S, S', h1, h2, h3, h4, h5⟩ := h.two
  exact ⟨h.tw.call hb, S, S', h1.below hb, h2.below hb, h3, h4, h5⟩
theorem TP.drewN (h : TP v w q qb lim vq vt tb W) (n : Nat) : TP v w q qb lim vq vt tb (W.drewN n) := by
  obtain ⟨S, S', h1, h2, h3, h4, h5⟩ := h.two
  exact ⟨h.tw.drew n, S, S', h1.heap rfl, h2.heap rfl, h3, h4, h5⟩
theorem TP.drew (h : TP v w q qb lim vq vt tb W) : TP v w q qb lim vq vt tb W.drew := h.drewN 1
theorem TW.drew1 {vs : List Value} (h : TW v w q qb lim vs W) : TW v w q qb lim vs W.drew := h.drew 1

theorem TP.push (h : TP v w q qb lim vq vt tb W) (x : Int) (hm : vq.length < lim) :
    Calls Try.prog 11 #[.pointer (some ⟨q, 0, none⟩), .int .i64 x] W fun e W' => e = .returned .nilIface ∧ TP v w q qb lim (vq ++ [.int .i64 x]) vt tb W' := by
  obtain ⟨S, S', h1, h2, h3, h4, h5⟩ := h.two
  have T := h.tw
  refine (push_ok _ x h1 hm).mono ?_
  rintro e W' ⟨rfl, S2, Q2, C2, F2⟩
  have hlo : ∀ k, ¬ (w.heap.size + 2 ≤ k ∧ k ≠ qb) → ¬ S k := fun k hk hs => hk (h5 k hs)
  have h6 : ∀ k, S2 k → w.heap.size + 2 ≤ k ∧ k ≠ qb := by
    intro k hk
    rcases F2 k hk with h | h
    · exact h5 k h
    · have := T.qlt
      have := T.lo
      omega
  refine ⟨rfl, ⟨T.below.trans (C2.below T.below.size (fun k hk => by have := (h5 k hk).1; omega)), C2.heap T.hv (hlo _ (by omega)), C2.heap T.hr (hlo _ (by omega)), C2.heap T.hq (hlo _ (by omega)), T.lo, S2, Q2, h6⟩, S2, S', Q2, h2.chg C2 (fun k hk hs => h3 k hs hk), ?_, h4, h6⟩
  intro k hk hs
  rcases F2 k hk with h | h
  · exact h3 k h hs
  · have := h2.lt k hs
    omega

/-- Clear of the twin keeps the queue. -/
theorem TP.clear (h : TP v w q qb lim vq vt tb W) :
    Calls Try.prog 20 #[.pointer (some ⟨tb, 0, none⟩)] W fun e W' => (∃ n : Int, e = .returned (.int .i64 n)) ∧ TW v w q qb lim vq W' := by
  obtain ⟨S, S', h1, h2, h3, h4, h5⟩ := h.two
  refine (clear_ok h2).mono ?_
  rintro e W' ⟨rfl, C⟩
  refine ⟨⟨_, rfl⟩, h.tw.other C (h.tw.below.trans (C.below h.tw.below.size (fun k hk => by have := (h4 k hk).1; omega))) h4 (fun S2 Q2 k hk hs => h3 k (Q2.uniq h1 hk) hs)⟩

theorem Qu.qo {vs : List Int} {p : Nat} {S : Nat → Prop} (h : Qu IsI 84 3 W p lim (vs.map (Value.int .i64)) S) : QO (fun k => W.heap.size ≤ k) W (some ⟨p, 0, none⟩) lim vs :=
  .inr ⟨p, rfl, ⟨S, h, fun k hk hs => by have := h.lt k hk; exact absurd hs (by show ¬ W.heap.size ≤ k; omega)⟩⟩

/-- Same, of the two. -/
theorem TP.same {zs : List Int} (h : TP v w q qb lim (zs.map (Value.int .i64)) (zs.map (Value.int .i64)) tb W) :
    Calls Try.prog 17 #[.pointer (some ⟨q, 0, none⟩), .pointer (some ⟨tb, 0, none⟩)] W fun e W' => e = .returned (.bool true) ∧ Below W.heap.size W W' := by
  obtain ⟨S, S', h1, h2, _⟩ := h.two
  refine (same_loop _ _ _ _ _ _ h1.qo h2.qo rfl).mono ?_
  rintro e W' ⟨rfl, hb⟩
  exact ⟨by simp, hb⟩
theorem TP.differ {zs ys : List Int} (h : TP v w q qb lim (zs.map (Value.int .i64)) (ys.map (Value.int .i64)) tb W) (hne : zs.length ≠ ys.length) :
    Calls Try.prog 17 #[.pointer (some ⟨q, 0, none⟩), .pointer (some ⟨tb, 0, none⟩)] W fun e W' => e = .returned (.bool false) ∧ Below W.heap.size W W' := by
  obtain ⟨S, S', h1, h2, _⟩ := h.two
  exact same_len _ _ _ _ _ _ h1.qo h2.qo hne

theorem TP.limq (h : TP v w q qb lim vq vt tb W) : Calls Try.prog 18 #[.pointer (some ⟨q, 0, none⟩)] W fun e W' => e = .returned (.int .i64 (lim : Int)) ∧ W = W' := by
  obtain ⟨S, S', h1, h2, _⟩ := h.two
  exact limit_ok q _ W h1.c3
theorem TP.limt (h : TP v w q qb lim vq vt tb W) : Calls Try.prog 18 #[.pointer (some ⟨tb, 0, none⟩)] W fun e W' => e = .returned (.int .i64 (lim : Int)) ∧ W = W' := by
  obtain ⟨S, S', h1, h2, _⟩ := h.two
  exact limit_ok tb _ W h2.c3
theorem TP.lenq (h : TP v w q qb lim vq vt tb W) : Calls Try.prog 12 #[.pointer (some ⟨q, 0, none⟩)] W fun e W' => e = .returned (.int .i64 (vq.length : Int)) ∧ W = W' := by
  obtain ⟨S, S', h1, h2, _⟩ := h.two
  exact len_ok q _ W h1.c2
theorem TP.lent (h : TP v w q qb lim vq vt tb W) : Calls Try.prog 12 #[.pointer (some ⟨tb, 0, none⟩)] W fun e W' => e = .returned (.int .i64 (vt.length : Int)) ∧ W = W' := by
  obtain ⟨S, S', h1, h2, _⟩ := h.two
  exact len_ok tb _ W h2.c2
theorem TW.len {vs : List Value} (h : TW v w q qb lim vs W) : Calls Try.prog 12 #[.pointer (some ⟨q, 0, none⟩)] W fun e W' => e = .returned (.int .i64 (vs.length : Int)) ∧ W = W' := by
  obtain ⟨S, h1, _⟩ := h.ex
  exact len_ok q _ W h1.c2

/-- The twin that Twin makes. -/
theorem TW.twin {vs : List Value} (h : TW v w q qb lim vs W) (hI : ∀ u ∈ vs, IsI u) :
    Calls Try.prog 16 #[.pointer (some ⟨q, 0, none⟩)] W fun e W' => ∃ tb, e = .returned (.pointer (some ⟨tb, 0, none⟩)) ∧ TP v w q qb lim vs vs tb W' := by
  obtain ⟨S, h1, h2⟩ := h.ex
  refine (twin_ok h1 hI).mono ?_
  rintro e W' ⟨tb, rfl, ⟨S', q2, lo2⟩, hb⟩
  refine ⟨tb, rfl, h.call hb, S, S', h1.below hb, q2, fun k hk hs => ?_, fun k hk => ?_, h2⟩
  · have := h1.lt k hk
    have := lo2 k hs
    omega
  · have := lo2 k hk
    have := h.qlt
    have := h.lo
    omega

/-- List of q: a row of its own, the world below it as it was. -/
theorem TP.list {zs : List Int} (h : TP v w q qb lim (zs.map (Value.int .i64)) vt tb W) :
    Calls Try.prog 14 #[.pointer (some ⟨q, 0, none⟩)] W fun e W' => ∃ a c, e = .returned (.slice a zs.length c) ∧ W'.ownsRow W.heap.size 3 1 (.slice a zs.length c) zs.length (zs.map (Value.int .i64)) ∧ Below W.heap.size W W' := by
  obtain ⟨S, S', h1, h2, _⟩ := h.two
  refine (list_qu _ h1).mono ?_
  rintro e W' ⟨u, rfl, r1, r2⟩
  rw [List.length_map] at r1
  have : ∃ a c, u = .slice a zs.length c := by
    rcases r1.2 with ⟨rfl, e⟩ | ⟨g, c, cur, rfl, _⟩
    · have hz : zs = [] := by simpa using e
      subst hz
      exact ⟨_, _, rfl⟩
    · exact ⟨_, _, rfl⟩
  obtain ⟨a, c, rfl⟩ := this
  exact ⟨a, c, rfl, r1, r2⟩
theorem TP.listt {ys : List Int} (h : TP v w q qb lim vq (ys.map (Value.int .i64)) tb W) :
    Calls Try.prog 14 #[.pointer (some ⟨tb, 0, none⟩)] W fun e W' => ∃ a c, e = .returned (.slice a ys.length c) ∧ W'.ownsRow W.heap.size 3 1 (.slice a ys.length c) ys.length (ys.map (Value.int .i64)) ∧ Below W.heap.size W W' := by
  obtain ⟨S, S', h1, h2, _⟩ := h.two
  refine (list_qu _ h2).mono ?_
  rintro e W' ⟨u, rfl, r1, r2⟩
  rw [List.length_map] at r1
  have : ∃ a c, u = .slice a ys.length c := by
    rcases r1.2 with ⟨rfl, e⟩ | ⟨g, c, cur, rfl, _⟩
    · have hz : ys = [] := by simpa using e
      subst hz
      exact ⟨_, _, rfl⟩
    · exact ⟨_, _, rfl⟩
  obtain ⟨a, c, rfl⟩ := this
  exact ⟨a, c, rfl, r1, r2⟩
end
end Go.Proofs.Ytahaclglkbgpcaa
