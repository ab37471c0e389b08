/- Same for jobs, by contract. Printed by gen_jqa.py (this repo's) out of XFqA3. -/
import Derived.Test.YtahaclglkbgpcaaJqA
import Derived.Test.YtahaclglkbgpcaaEqJ
set_option linter.unusedVariables false
set_option linter.unusedSimpArgs false
namespace Go.Proofs.Ytahaclglkbgpcaa
open Go.RowKit Go.Shelf
open Go.Proofs.YtahaclglkbgpcaaW.PrintWords (Kd Drawn0 Kept rd rdOf)
open Go.Proofs.Ytahaclglkbgpcaa.PFifoJobs
set_option maxRecDepth 100000
attribute [local go_sem] Oper.semAt_some
attribute [local go_sem high] eqJob

theorem jwide_fn (k : Nat) : Fence.wide.fn k = True := rfl
theorem jat_n {U : Nat → Prop} (w : World) {p lim : Nat} {zs : List Jb} (h : JZ U w p lim zs) (k : Nat) (y : Jb) (hy : y = zs[k]?.getD zJ) :
    Calls Try.prog 60 #[.pointer (some ⟨p, 0, none⟩), .int .i64 (k : Int)] w fun e w' => e = .returned (.tuple #[.agg #[.int .i64 y.f0, .int .i64 y.f1, .int .i64 y.f2, .int .i64 y.f3], .bool (decide (k < zs.length))]) ∧ Below w.heap.size w w' := by
  by_cases hk : k < zs.length
  · rcases h.2 with ⟨rfl, h1⟩ | ⟨g, n, cap, rs, h1, h2, -⟩
    · simp at hk
    · obtain ⟨x, e1, e2⟩ := jl_get h2 h1.len h1.many_le hk
      have e : (0 + k) % n = k := by rw [Nat.zero_add]; exact Nat.mod_eq_of_lt (by have := h1.many_le; omega)
      have ey : y = x := by rw [hy, e2]; rfl
      subst ey
      rw [decide_eq_true hk]
      exact jat_some p g n cap 0 zs.length lim k rs y w h1 hk (by rw [e]; exact e1)
  · have ey : y = zJ := by rw [hy, List.getElem?_eq_none (by omega)]; rfl
    subst ey
    rw [decide_eq_false hk]
    refine (jat_none p k zs.length w h.c2 (by omega) (by omega)).mono ?_
    rintro e w' ⟨rfl, hb⟩
    exact ⟨rfl, hb⟩
theorem cell_lt {w : World} {k o : Nat} {v : Value} (hc : w.cell? ⟨k, o, none⟩ = some v) : k < w.heap.size := by
  rcases Nat.lt_or_ge k w.heap.size with h | h
  · exact h
  · simp [World.cell?, Array.getElem?_eq_none h] at hc
theorem jsame_true {zs ys : List Jb} (hl : zs.length = ys.length) (h : ∀ x ∈ jupto zs zs.length, ys[x.1]?.getD zJ = x.2) : zs = ys := by
  apply List.ext_getElem hl
  intro i h1 h2
  have := h (i, zs[i]?.getD zJ) (by simp only [jupto, List.mem_map, List.mem_range]; exact ⟨i, h1, rfl⟩)
  simp [h1, h2] at this
  exact this.symm
theorem jsame_false {zs ys : List Jb} {k : Nat} (h : ∃ x ∈ jupto zs k, ys[x.1]?.getD zJ ≠ x.2) : zs ≠ ys := by
  rintro rfl
  obtain ⟨x, hx, hne⟩ := h
  simp only [jupto, List.mem_map, List.mem_range] at hx
  obtain ⟨i, _, rfl⟩ := hx
  exact hne rfl
instance : DecidableEq Jb := fun x y => decidable_of_iff (x.f0 = y.f0 ∧ x.f1 = y.f1 ∧ x.f2 = y.f2 ∧ x.f3 = y.f3) ⟨fun ⟨a, b, c, d⟩ => by cases x; cases y; simp at a b c d; subst a b c d; rfl, fun e => by subst e; exact ⟨rfl, rfl, rfl, rfl⟩⟩
theorem jne_bool (x y : Jb) : (x.f0 == y.f0 && (x.f1 == y.f1 && (x.f2 == y.f2 && x.f3 == y.f3))) = decide (x = y) := by
  obtain ⟨a, b, c, d⟩ := x
  obtain ⟨e, f, g, h⟩ := y
  rw [Bool.eq_iff_iff]
  simp

theorem keepsO_below {W W' : World} (h : Below W.heap.size W W') : KeepsOthers W W' :=
  ⟨h.size, fun k o hk _ => (h.block k (Array.getElem?_eq_some_iff.1 hk).1).trans hk⟩

set_option maxHeartbeats 200000 in
theorem jsame_ok (p r : Nat) (lim : Nat) (zs ys : List Jb) (w : World) (h1 : JZ (fun k => w.heap.size ≤ k) w p lim zs) (h2 : JZ (fun k => w.heap.size ≤ k) w r lim ys) (hl : zs.length = ys.length) :
    Calls Try.prog 26 #[.pointer (some ⟨p, 0, none⟩), .pointer (some ⟨r, 0, none⟩)] w fun e w' => e = .returned (.bool (decide (zs = ys))) ∧ Below w.heap.size w w' := by
  have H1 := Lib.hid h1
  have H2 := Lib.hid h2
  have HL := Lib.hid hl
  clear h1 h2 hl
  refine (callsIn_wide (n := 4)).1 ?_
  refine callsIn_of_wp_marks Try.func26 rfl trivial ?_ rfl
  simp only [Try.ntmps26, List.size_toArray, List.length_cons, List.length_nil, Nat.reduceAdd, Nat.reduceSub, Array.replicate_succ, Array.replicate_zero, List.push_toArray, List.append_toArray, List.nil_append, List.cons_append]
  gi_wp2
  obtain ⟨W0, hW0⟩ : ∃ W0, W0 = (w.alloc (.cells #[.pointer (some ⟨r, 0, none⟩)] 44)).alloc (.cells #[.bool false] 4) := ⟨_, rfl⟩
  rw [← hW0]
  have hs0 : W0.heap.size = w.heap.size + 2 := by rw [hW0]; simp
  have hB0 : Below w.heap.size w W0 := by rw [hW0]; exact ((Below.refl _ w).alloc (Nat.le_refl _) _).alloc (by simp) _
  have c3 : W0.cell? ⟨w.heap.size, 0, none⟩ = some (.pointer (some ⟨r, 0, none⟩)) := by rw [hW0, World.cell?_alloc_lt _ _ _ (by simp)]; simp
  have c4 : W0.cell? ⟨w.heap.size + 1, 0, none⟩ = some (.bool false) := by rw [hW0, World.cell?_alloc_at _ _ _ _ (by simp)]; rfl
  have f4 : W0.frozen? ⟨w.heap.size + 1, 0, none⟩ = false := by rw [hW0]; simp only [frozen?_alloc_cells]; simp [World.frozen?]
  have mixed : Try.prog.follows Departure.mixedOrders = true := by kernel_rfl
  have A1 := H1.out.below hB0
  have A2 := H2.out.below hB0
  have HA1 := Lib.hid A1
  have HA2 := Lib.hid A2
  clear A1 A2 hW0
  obtain ⟨len, hlen⟩ : ∃ len, len = zs.length := ⟨_, rfl⟩
  have L1 : ∀ n, Calls Try.prog 57 #[.pointer (some ⟨p, 0, none⟩)] (W0.drewN n) fun e w' => e = .returned (.int .i64 (lim : Int)) ∧ ∃ m, w' = W0.drewN m := fun n => (jlimit_ok p lim (W0.drewN n) (HA1.out.heap (b := W0.drewN n) rfl).c3).mono fun e w' ⟨h1, h2⟩ => ⟨h1, n, h2.symm⟩
  have L2 : ∀ n, Calls Try.prog 57 #[.pointer (some ⟨r, 0, none⟩)] (W0.drewN n) fun e w' => e = .returned (.int .i64 (lim : Int)) ∧ ∃ m, w' = W0.drewN m := fun n => (jlimit_ok r lim (W0.drewN n) (HA2.out.heap (b := W0.drewN n) rfl).c3).mono fun e w' ⟨h1, h2⟩ => ⟨h1, n, h2.symm⟩
  have N1 : ∀ n, Calls Try.prog 58 #[.pointer (some ⟨p, 0, none⟩)] (W0.drewN n) fun e w' => e = .returned (.int .i64 (len : Int)) ∧ ∃ m, w' = W0.drewN m := fun n => (jlen_ok p _ (W0.drewN n) (HA1.out.heap (b := W0.drewN n) rfl).c2).mono fun e w' ⟨h1, h2⟩ => ⟨by rw [h1, hlen], n, h2.symm⟩
  have N2 : ∀ n, Calls Try.prog 58 #[.pointer (some ⟨r, 0, none⟩)] (W0.drewN n) fun e w' => e = .returned (.int .i64 (len : Int)) ∧ ∃ m, w' = W0.drewN m := fun n => (jlen_ok r _ (W0.drewN n) (HA2.out.heap (b := W0.drewN n) rfl).c2).mono fun e w' ⟨h1, h2⟩ => ⟨by rw [h1, hlen, HL.out], n, h2.symm⟩
  have HL1 := Lib.hid L1; have HL2 := Lib.hid L2; have HN1 := Lib.hid N1; have HN2 := Lib.hid N2
  have HLen := Lib.hid hlen
  clear L1 L2 N1 N2 hlen
  refine wpIn_wide.2 ?_
  go_quiet (first
    | (go_at_call 57; with_reducible exact HL1.out _)
    | (go_at_call 57; with_reducible exact HL2.out _)
    | (go_at_call 58; with_reducible exact HN1.out _)
    | (go_at_call 58; with_reducible exact HN2.out _))
  obtain ⟨W1, hW1⟩ : ∃ x, x = W0.drewN nq := ⟨_, rfl⟩
  rw [← hW1]
  replace c3 : W1.cell? ⟨w.heap.size, 0, none⟩ = some (.pointer (some ⟨r, 0, none⟩)) := by rw [hW1]; exact c3
  replace c4 : W1.cell? ⟨w.heap.size + 1, 0, none⟩ = some (.bool false) := by rw [hW1]; exact c4
  replace f4 : W1.frozen? ⟨w.heap.size + 1, 0, none⟩ = false := by rw [hW1]; exact f4
  have hs1 : W1.heap.size = w.heap.size + 2 := by rw [hW1]; exact hs0
  have hB1 : Below w.heap.size w W1 := by rw [hW1]; exact below_drewN' hB0 _
  clear hW1 hB0 hs0 HA1 HA2 HL1 HL2 HN1 HN2
  gi_wp2_with (refine ⟨trivial, ?_⟩; gi_at_call 59; refine (jall_in _ (some ⟨p, 0, none⟩) W1).mono ?_; rintro e w' ⟨rfl, rfl⟩)
  have hU : ∀ k, (W1.alloc (.cells #[.pointer (some ⟨p, 0, none⟩)] 44)).heap.size ≤ k → (fun k => k = w.heap.size + 1 ∨ w.heap.size + 3 ≤ k) k := fun k hk => Or.inr (by simp [hs1] at hk; omega)
  refine wpIn_rangeFunc_ownH rfl (by omega) (gf := 75) (lb := #[.pointer (some ⟨w.heap.size + 2, 0, none⟩)]) rfl trivial (enters_of Try.func75 (by kernel_rfl) rfl)
    (jall_stops (4 - 1) (by omega) (w.heap.size + 2) p lim (fun k => k = w.heap.size + 1 ∨ w.heap.size + 3 ≤ k) zs _ (by first | (simp; done) | (simp; omega)) hU (by rw [← hs1]; simp) (((H1.out.below hB1).below ((Below.refl _ _).alloc (Nat.le_refl _) _)).sub (fun k _ h => by show w.heap.size ≤ k; rcases h with h | h <;> omega)))
    jchgK_t (jchgK_b hU) (Below.refl _ _) (fun _ => rfl)
    (fun pre W => ((∀ x ∈ pre, ys[x.1]?.getD zJ = x.2) ∧ W.cell? ⟨w.heap.size, 0, none⟩ = some (.pointer (some ⟨r, 0, none⟩)) ∧ W.cell? ⟨w.heap.size + 1, 0, none⟩ = some (.bool false) ∧ W.frozen? ⟨w.heap.size + 1, 0, none⟩ = false) ∧ Below w.heap.size w W)
    (fun c pre W => (c = .ret ∧ (∃ x ∈ pre, ys[x.1]?.getD zJ ≠ x.2) ∧ W.cell? ⟨w.heap.size + 1, 0, none⟩ = some (.bool false)) ∧ Below w.heap.size w W)
    (OwnFrom.and (Own.from (fun s A B row hs hg hr => ⟨hs.1, cell_kept hs.2.1 hg hr, cell_kept hs.2.2.1 hg hr, (frozen_kept hs.2.2.1 hg hr).trans hs.2.2.2⟩) _) (ownFrom_below (Nat.le_refl _) (by simp [hs1]; omega)))
    (fun c => OwnFrom.and (Own.from (fun s A B row hs hg hr => ⟨hs.1, hs.2.1, cell_kept hs.2.2 hg hr⟩) _) (ownFrom_below (Nat.le_refl _) (by simp [hs1]; omega)))
    ⟨⟨by simp, keep ((Below.refl _ _).alloc (Nat.le_refl _) _) c3, keep ((Below.refl _ _).alloc (Nat.le_refl _) _) c4, keepf ((Below.refl _ _).alloc (Nat.le_refl _) _) (by omega) f4⟩, hB1.alloc (by omega) _⟩
    (fun x a' W => ∃ b6, a' = { tmps := #[.pointer (some ⟨p, 0, none⟩), .pointer (some ⟨r, 0, none⟩), undef, .pointer (some ⟨w.heap.size, 0, none⟩), .pointer (some ⟨w.heap.size + 1, 0, none⟩), .int .i64 (x.1 : Int), .pointer (some ⟨b6, 0, none⟩), undef, undef, .pointer (some ⟨p, 0, none⟩), .int .i64 lim, .pointer (some ⟨r, 0, none⟩), .int .i64 lim, .bool false, .bool false, .pointer (some ⟨p, 0, none⟩), .int .i64 len, .pointer (some ⟨r, 0, none⟩), .int .i64 len, .bool false, .bool false, .pointer (some ⟨p, 0, none⟩), .func (.func 75) #[] #[.pointer (some ⟨w.heap.size + 2, 0, none⟩)], .int .i64 (x.1 : Int), .agg #[.int .i64 x.2.f0, .int .i64 x.2.f1, .int .i64 x.2.f2, .int .i64 x.2.f3], undef, undef, undef, undef, undef, undef, undef, undef, undef], defers := [] } ∧ W.cell? ⟨b6, 0, none⟩ = some (.int .i64 x.2.f0) ∧ W.cell? ⟨b6, 1, none⟩ = some (.int .i64 x.2.f1) ∧ W.cell? ⟨b6, 2, none⟩ = some (.int .i64 x.2.f2) ∧ W.cell? ⟨b6, 3, none⟩ = some (.int .i64 x.2.f3))
    (fun x a' => Own.from (fun s A B row hs hg hr => by obtain ⟨b6, e, e0, e1, e2, e3⟩ := hs; exact ⟨b6, e, cell_kept e0 hg hr, cell_kept e1 hg hr, cell_kept e2 hg hr, cell_kept e3 hg hr⟩) _) ?assign ?body ?done ?stop
  case assign =>
    rintro l pre x W K ⟨⟨hp, d3, d4, g4⟩, hB⟩ hK
    have hb : Below W.heap.size W (W.alloc (.cells #[.int .i64 x.2.f0, .int .i64 x.2.f1, .int .i64 x.2.f2, .int .i64 x.2.f3] 48)) := (Below.refl _ _).alloc (Nat.le_refl _) _
    have HKK := Lib.hid hK
    have HP := Lib.hid hp
    have HB := Lib.hid hB
    clear hK hp hB
    gi_wp2
    obtain ⟨v0, v1, v2, v3⟩ := box_cells (heap_alloc_new W (.cells #[.int .i64 x.2.f0, .int .i64 x.2.f1, .int .i64 x.2.f2, .int .i64 x.2.f3] 48))
    exact HKK.out _ _ ((keepsO_below hb).from _) (Chg.ofBelow hb _) ⟨⟨HP.out, keep hb d3, keep hb d4, keepf hb (cell_lt d4) g4⟩, below_call HB.out (Nat.le_refl _) hb⟩ ⟨W.heap.size, rfl, v0, v1, v2, v3⟩
  case body =>
    rintro l pre x a' W _ _ ⟨⟨hp, d3, d4, g4⟩, hB⟩ ⟨b6, rfl, e0, e1, e2, e3⟩ _
    have HQ := Lib.hid (H2.out.below hB)
    have HB := Lib.hid hB
    have HPr := Lib.hid hp
    obtain ⟨y, hy⟩ : ∃ y, y = ys[x.1]?.getD zJ := ⟨_, rfl⟩
    have HY := Lib.hid hy
    clear hB hp hy
    by_cases hxy : x.2 = y
    · have t : (x.2.f0 == y.f0 && (x.2.f1 == y.f1 && (x.2.f2 == y.f2 && x.2.f3 == y.f3))) = true := by rw [jne_bool]; simpa using hxy
      have HX := Lib.hid hxy
      clear hxy
      gi_wp2_with (refine ⟨trivial, ?_⟩; gi_at_call 60; refine (CallsIn.inRound l (callsIn_wide.2 (jat_n _ HQ.out x.1 y HY.out))).mono ?_; rintro e w' ⟨rfl, hb⟩; have s0 := keep hb e0; have s1 := keep hb e1; have s2 := keep hb e2; have s3 := keep hb e3; have s4 := cell_lt s0)
      have hb2 := below_call hb (Nat.le_refl _) ((Below.refl w'.heap.size w').alloc (Nat.le_refl _) (.cells #[.int .i64 y.f0, .int .i64 y.f1, .int .i64 y.f2, .int .i64 y.f3] 48))
      exact ⟨(keepsO_below hb2).from _, Chg.ofBelow hb2 _, ⟨fun z hz => (List.mem_append.1 hz).elim (HPr.out z) (fun e => by simp at e; subst e; rw [← HY.out]; exact HX.out.symm), keep hb2 d3, keep hb2 d4, keepf hb2 (cell_lt d4) g4⟩, below_call HB.out (Nat.le_refl _) hb2⟩
    · have t : (x.2.f0 == y.f0 && (x.2.f1 == y.f1 && (x.2.f2 == y.f2 && x.2.f3 == y.f3))) = false := by rw [jne_bool]; simpa using hxy
      have HX := Lib.hid hxy
      clear hxy
      gi_wp2_with (refine ⟨trivial, ?_⟩; gi_at_call 60; refine (CallsIn.inRound l (callsIn_wide.2 (jat_n _ HQ.out x.1 y HY.out))).mono ?_; rintro e w' ⟨rfl, hb⟩; have s0 := keep hb e0; have s1 := keep hb e1; have s2 := keep hb e2; have s3 := keep hb e3; have s4 := cell_lt s0; have e4 := keep hb d4; have k4 := keepf hb (cell_lt d4) g4; have k5 := cell_lt e4)
      have ha : Below (w'.setCell ⟨w.heap.size + 1, 0, none⟩ (.bool false)).heap.size (w'.setCell ⟨w.heap.size + 1, 0, none⟩ (.bool false)) ((w'.setCell ⟨w.heap.size + 1, 0, none⟩ (.bool false)).alloc (.cells #[.int .i64 y.f0, .int .i64 y.f1, .int .i64 y.f2, .int .i64 y.f3] 48)) := (Below.refl _ _).alloc (Nat.le_refl _) _
      have hbs := (below_call HB.out (Nat.le_refl _) hb).setCell (p := ⟨w.heap.size + 1, 0, none⟩) (by simp) (.bool false)
      exact ⟨(((keepsO_below hb).trans (KeepsOthers.setCell _ _ _)).trans (keepsO_below ha)).from _, ⟨rfl, ⟨x, by simp, by rw [← HY.out]; exact fun e => HX.out e.symm⟩, keep ha (World.cell?_setCell_same' _ _ _ (by rw [e4]; rfl))⟩, hbs.alloc (by have := hbs.size; exact this) _⟩
  case done =>
    rintro D ps W hD rfl ⟨⟨hne, _, hcr, hfr⟩, hB⟩ hK
    have HN := Lib.hid hne
    clear hne
    gi_wp2
    have hK' := (KeepsOthers.setCell W ⟨w.heap.size + 1, 0, none⟩ (.bool true)).same D _ hK rfl
    refine ⟨by simp, .inl ⟨_, _, rfl, run_takeDeferred hK', ?_⟩⟩
    have hc5 := cell_kept (World.cell?_setCell_same' W ⟨w.heap.size + 1, 0, none⟩ (.bool true) (by rw [hcr]; rfl)) (grownBy_putObj' _ D (.deferred none)) (fun r e => by cases e; exact ⟨_, hK', rfl⟩)
    refine ⟨.bool true, ?_, by rw [decide_eq_true (jsame_true HL.out HN.out)], (hB.setCell (p := ⟨w.heap.size + 1, 0, none⟩) (by simp) _).trans (belowK_b (w := w) (Nat.le_refl _) _ D _ _ (by simp at hD; omega) hK' rfl rfl)⟩
    simp [results, Try.f26, go_sem, hc5]
  case stop =>
    rintro D c pre W hD ⟨k, hk, rfl⟩ ⟨⟨rfl, hin, hcr⟩, hB⟩ hK
    have HN := Lib.hid hin
    clear hin
    gi_wp2
    refine ⟨by simp, .inl ⟨_, _, rfl, run_takeDeferred hK, ?_⟩⟩
    have hc5 := cell_kept hcr (grownBy_putObj' _ D (.deferred none)) (fun r e => by cases e; exact ⟨_, hK, rfl⟩)
    refine ⟨.bool false, ?_, by rw [decide_eq_false (jsame_false HN.out)], hB.trans (belowK_b (w := w) (Nat.le_refl _) W D _ _ (by simp at hD; omega) hK rfl rfl)⟩
    simp [results, Try.f26, go_sem, hc5]
end Go.Proofs.Ytahaclglkbgpcaa
