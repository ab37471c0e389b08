/- Same: whether two queues are alike, by contract. -/
import Derived.Test.YtahaclglkbgpcaaFqA2
set_option linter.unusedVariables false
set_option linter.unusedSimpArgs false
namespace Go.Proofs.Ytahaclglkbgpcaa
open Go.RowKit Go.Shelf
set_option maxRecDepth 100000
attribute [local go_sem] Oper.semAt_some

theorem wide_fn (k : Nat) : Fence.wide.fn k = True := rfl
theorem wide_depth : Fence.wide.depth = none := rfl

theorem QO.heap {U : Nat → Prop} {a b : World} {p : Option Addr} {lim : Nat} {zs : List Int} (h : QO U a p lim zs) (e : b.heap = a.heap) : QO U b p lim zs := by
  rcases h with h | ⟨q, hp, ⟨S, ⟨ring, n, cap, first, cells, h1, h2, h3, h4⟩, h5⟩⟩
  · exact .inl h
  · exact .inr ⟨q, hp, ⟨S, ⟨ring, n, cap, first, cells, h1.heap e, h2, h3, h4⟩, h5⟩⟩

theorem QO.sub {U V : Nat → Prop} {w : World} {p : Option Addr} {lim : Nat} {zs : List Int} (h : QO U w p lim zs) (hv : ∀ k, k < w.heap.size → V k → U k) : QO V w p lim zs := by
  rcases h with h | ⟨q, hp, h⟩
  · exact .inl h
  · exact .inr ⟨q, hp, h.sub hv⟩

theorem limit_q {U : Nat → Prop} {w : World} {p : Option Addr} {lim : Nat} {zs : List Int} (h : QO U w p lim zs) (k n : Nat) :
    CallsIn Fence.wide k Try.prog 18 #[.pointer p] (w.drewN n) fun e w' => e = .returned (.int .i64 (lim : Int)) ∧ w' = w.drewN n :=
  callsIn_wide.2 ((limit_o (w.drewN n) (h.heap rfl)).mono fun e w' ⟨h1, h2⟩ => ⟨h1, h2.symm⟩)
theorem len_q {U : Nat → Prop} {w : World} {p : Option Addr} {lim : Nat} {zs : List Int} (h : QO U w p lim zs) (k n : Nat) :
    CallsIn Fence.wide k Try.prog 12 #[.pointer p] (w.drewN n) fun e w' => e = .returned (.int .i64 (zs.length : Int)) ∧ w' = w.drewN n :=
  callsIn_wide.2 ((len_o (w.drewN n) (h.heap rfl)).mono fun e w' ⟨h1, h2⟩ => ⟨h1, h2.symm⟩)

theorem at_n {U : Nat → Prop} (w : World) {p : Option Addr} {lim : Nat} {zs : List Int} (h : QO U w p lim zs) (k : Nat) (y : Int) (hy : y = zs[k]?.getD 0) :
    Calls Try.prog 40 #[.pointer p, .int .i64 (k : Int)] w fun e w' => e = .returned (.tuple #[.int .i64 y, .bool (decide (k < zs.length))]) ∧ Below w.heap.size w w' := by
  refine (at_o w h k).mono ?_
  rintro e w' ⟨rfl, hb⟩
  have d1 : (0 : Int) ≤ (k : Int) := by omega
  have d2 : decide ((0 : Int) ≤ (k : Int) ∧ (k : Int) < (zs.length : Int)) = decide (k < zs.length) := by simp
  rw [if_pos d1, d2, hy]
  exact ⟨rfl, hb⟩

theorem cell_lt {w : World} {k o : Nat} {v : Value} (hc : w.cell? ⟨k, o, none⟩ = some v) : k < w.heap.size := by
  rcases Nat.lt_or_ge k w.heap.size with h | h
  · exact h
  · simp [World.cell?, Array.getElem?_eq_none h] at hc

theorem same_true {zs ys : List Int} (hl : zs.length = ys.length) (h : ∀ x ∈ upto zs zs.length, ys[x.1]?.getD 0 = x.2) : zs = ys := by
  apply List.ext_getElem hl
  intro i h1 h2
  have := h (i, zs[i]?.getD 0) (by simp only [upto, List.mem_map, List.mem_range]; exact ⟨i, h1, rfl⟩)
  simp [h1, h2] at this
  exact this.symm

theorem same_false {zs ys : List Int} {k : Nat} (h : ∃ x ∈ upto zs k, ys[x.1]?.getD 0 ≠ x.2) : zs ≠ ys := by
  rintro rfl
  obtain ⟨x, hx, hne⟩ := h
  simp only [upto, List.mem_map, List.mem_range] at hx
  obtain ⟨i, _, rfl⟩ := hx
  exact hne rfl

theorem keepsO_below {W W' : World} (h : Below W.heap.size W W') : KeepsOthers W W' :=
  ⟨h.size, fun k o hk _ => (h.block k (Array.getElem?_eq_some_iff.1 hk).1).trans hk⟩

set_option maxHeartbeats 200000 in
theorem same_loop (p r : Option Addr) (lim : Nat) (zs ys : List Int) (w : World) (h1 : QO (fun k => w.heap.size ≤ k) w p lim zs) (h2 : QO (fun k => w.heap.size ≤ k) w r lim ys) (hl : zs.length = ys.length) :
    Calls Try.prog 17 #[.pointer p, .pointer r] w fun e w' => e = .returned (.bool (decide (zs = ys))) ∧ Below w.heap.size w w' := by
  have H1 := Lib.hid h1
  have H2 := Lib.hid h2
  have HL := Lib.hid hl
  clear h1 h2 hl
  refine (callsIn_wide (n := 4)).1 ?_
  refine callsIn_of_wp_marks Try.func17 rfl trivial ?_ rfl
  simp only [Try.ntmps17, List.size_toArray, List.length_cons, List.length_nil, Nat.reduceAdd, Nat.reduceSub, Array.replicate_succ, Array.replicate_zero, List.push_toArray, List.append_toArray, List.nil_append, List.cons_append]
  gi_wp2
  obtain ⟨W0, hW0⟩ : ∃ W0, W0 = (w.alloc (.cells #[.pointer r] 23)).alloc (.cells #[.bool false] 4) := ⟨_, rfl⟩
  rw [← hW0]
  have hs0 : W0.heap.size = w.heap.size + 2 := by rw [hW0]; simp
  have hB0 : Below w.heap.size w W0 := by rw [hW0]; exact ((Below.refl _ w).alloc (Nat.le_refl _) _).alloc (by simp) _
  have c3 : W0.cell? ⟨w.heap.size, 0, none⟩ = some (.pointer r) := by rw [hW0, World.cell?_alloc_lt _ _ _ (by simp)]; simp
  have c4 : W0.cell? ⟨w.heap.size + 1, 0, none⟩ = some (.bool false) := by rw [hW0, World.cell?_alloc_at _ _ _ _ (by simp)]; rfl
  have f4 : W0.frozen? ⟨w.heap.size + 1, 0, none⟩ = false := by rw [hW0]; simp only [frozen?_alloc_cells]; simp [World.frozen?]
  have mixed : Try.prog.follows Departure.mixedOrders = true := by kernel_rfl
  have A1 := H1.out.below hB0
  have A2 := H2.out.below hB0
  have HA1 := Lib.hid A1
  have HA2 := Lib.hid A2
  clear A1 A2 hW0
  obtain ⟨len, hlen⟩ : ∃ len, len = zs.length := ⟨_, rfl⟩
  have L1 : ∀ n, Calls Try.prog 18 #[.pointer p] (W0.drewN n) fun e w' => e = .returned (.int .i64 (lim : Int)) ∧ ∃ m, w' = W0.drewN m := fun n => (limit_o (W0.drewN n) (HA1.out.heap rfl)).mono fun e w' ⟨h1, h2⟩ => ⟨h1, n, h2.symm⟩
  have L2 : ∀ n, Calls Try.prog 18 #[.pointer r] (W0.drewN n) fun e w' => e = .returned (.int .i64 (lim : Int)) ∧ ∃ m, w' = W0.drewN m := fun n => (limit_o (W0.drewN n) (HA2.out.heap rfl)).mono fun e w' ⟨h1, h2⟩ => ⟨h1, n, h2.symm⟩
  have N1 : ∀ n, Calls Try.prog 12 #[.pointer p] (W0.drewN n) fun e w' => e = .returned (.int .i64 (len : Int)) ∧ ∃ m, w' = W0.drewN m := fun n => (len_o (W0.drewN n) (HA1.out.heap rfl)).mono fun e w' ⟨h1, h2⟩ => ⟨by rw [h1, hlen], n, h2.symm⟩
  have N2 : ∀ n, Calls Try.prog 12 #[.pointer r] (W0.drewN n) fun e w' => e = .returned (.int .i64 (len : Int)) ∧ ∃ m, w' = W0.drewN m := fun n => (len_o (W0.drewN n) (HA2.out.heap rfl)).mono fun e w' ⟨h1, h2⟩ => ⟨by rw [h1, hlen, HL.out], n, h2.symm⟩
  have HL1 := Lib.hid L1; have HL2 := Lib.hid L2; have HN1 := Lib.hid N1; have HN2 := Lib.hid N2
  have HLen := Lib.hid hlen
  clear L1 L2 N1 N2 hlen
  refine wpIn_wide.2 ?_
  go_quiet (first
    | (go_at_call 18; with_reducible exact HL1.out _)
    | (go_at_call 18; with_reducible exact HL2.out _)
    | (go_at_call 12; with_reducible exact HN1.out _)
    | (go_at_call 12; with_reducible exact HN2.out _))
  obtain ⟨W1, hW1⟩ : ∃ x, x = W0.drewN nq := ⟨_, rfl⟩
  rw [← hW1]
  replace c3 : W1.cell? ⟨w.heap.size, 0, none⟩ = some (.pointer r) := by rw [hW1]; exact c3
  replace c4 : W1.cell? ⟨w.heap.size + 1, 0, none⟩ = some (.bool false) := by rw [hW1]; exact c4
  replace f4 : W1.frozen? ⟨w.heap.size + 1, 0, none⟩ = false := by rw [hW1]; exact f4
  have hs1 : W1.heap.size = w.heap.size + 2 := by rw [hW1]; exact hs0
  have hB1 : Below w.heap.size w W1 := by rw [hW1]; exact below_drewN' hB0 _
  clear hW1 hB0 hs0 HA1 HA2 HL1 HL2 HN1 HN2
  gi_wp2_with (refine ⟨trivial, ?_⟩; gi_at_call 21; refine (all_in _ p W1).mono ?_; rintro e w' ⟨rfl, rfl⟩)
  have hU : ∀ k, (W1.alloc (.cells #[.pointer p] 23)).heap.size ≤ k → (fun k => k = w.heap.size + 1 ∨ w.heap.size + 3 ≤ k) k := fun k hk => Or.inr (by simp [hs1] at hk; omega)
  refine wpIn_rangeFunc_ownG rfl (by omega) (gf := 53) (lb := #[.pointer (some ⟨w.heap.size + 2, 0, none⟩)]) rfl trivial (enters_of Try.func53 (by kernel_rfl) rfl)
    (all_stops_o (4 - 1) (by omega) (w.heap.size + 2) p lim (fun k => k = w.heap.size + 1 ∨ w.heap.size + 3 ≤ k) zs _ (by first | (simp; done) | (simp; omega)) hU (by rw [← hs1]; simp) (((H1.out.below hB1).below ((Below.refl _ _).alloc (Nat.le_refl _) _)).sub (fun k _ h => by show w.heap.size ≤ k; rcases h with h | h <;> omega)))
    chgK_t (chgK_b hU) (Below.refl _ _) (fun _ => rfl)
    (fun pre W => ((∀ x ∈ pre, ys[x.1]?.getD 0 = x.2) ∧ W.cell? ⟨w.heap.size, 0, none⟩ = some (.pointer r) ∧ W.cell? ⟨w.heap.size + 1, 0, none⟩ = some (.bool false) ∧ W.frozen? ⟨w.heap.size + 1, 0, none⟩ = false) ∧ Below w.heap.size w W)
    (fun c pre W => (c = .ret ∧ (∃ x ∈ pre, ys[x.1]?.getD 0 ≠ x.2) ∧ W.cell? ⟨w.heap.size + 1, 0, none⟩ = some (.bool false)) ∧ Below w.heap.size w W)
    (OwnFrom.and (Own.from (fun s A B row hs hg hr => ⟨hs.1, cell_kept hs.2.1 hg hr, cell_kept hs.2.2.1 hg hr, (frozen_kept hs.2.2.1 hg hr).trans hs.2.2.2⟩) _) (ownFrom_below (Nat.le_refl _) (by simp [hs1]; omega)))
    (fun c => OwnFrom.and (Own.from (fun s A B row hs hg hr => ⟨hs.1, hs.2.1, cell_kept hs.2.2 hg hr⟩) _) (ownFrom_below (Nat.le_refl _) (by simp [hs1]; omega)))
    ⟨⟨by simp, keep ((Below.refl _ _).alloc (Nat.le_refl _) _) c3, keep ((Below.refl _ _).alloc (Nat.le_refl _) _) c4, keepf ((Below.refl _ _).alloc (Nat.le_refl _) _) (by omega) f4⟩, hB1.alloc (by omega) _⟩
    (fun x => { tmps := #[.pointer p, .pointer r, undef, .pointer (some ⟨w.heap.size, 0, none⟩), .pointer (some ⟨w.heap.size + 1, 0, none⟩), .int .i64 (x.1 : Int), .int .i64 x.2, undef, undef, .pointer p, .int .i64 lim, .pointer r, .int .i64 lim, .bool false, .bool false, .pointer p, .int .i64 len, .pointer r, .int .i64 len, .bool false, .bool false, .pointer p, .func (.func 53) #[] #[.pointer (some ⟨w.heap.size + 2, 0, none⟩)], .int .i64 (x.1 : Int), .int .i64 x.2, undef, undef, undef, undef, undef, undef, undef, undef, undef], defers := [] }) ?assign ?body ?done ?stop
  case assign =>
    intro l x W K hK
    gi_wp2
    exact hK
  case body =>
    rintro l pre x W ⟨⟨hp, d3, d4, g4⟩, hB⟩ _
    have HQ := Lib.hid (H2.out.below hB)
    have HB := Lib.hid hB
    have HPr := Lib.hid hp
    obtain ⟨y, hy⟩ : ∃ y, y = ys[x.1]?.getD 0 := ⟨_, rfl⟩
    have HY := Lib.hid hy
    clear hB hp hy
    by_cases hxy : x.2 = y
    · have t : (x.2 == y) = true := by simpa using hxy
      have HX := Lib.hid hxy
      clear hxy
      gi_wp2_with (refine ⟨trivial, ?_⟩; gi_at_call 40; refine (CallsIn.inRound l (callsIn_wide.2 (at_n _ HQ.out x.1 y HY.out))).mono ?_; rintro e w' ⟨rfl, hb⟩)
      exact ⟨(keepsO_below hb).from _, Chg.ofBelow hb _, ⟨fun z hz => (List.mem_append.1 hz).elim (HPr.out z) (fun e => by simp at e; subst e; rw [← HY.out]; exact HX.out.symm), keep hb d3, keep hb d4, keepf hb (cell_lt d4) g4⟩, below_call HB.out (Nat.le_refl _) hb⟩
    · have t : (x.2 == y) = false := by simpa using hxy
      have HX := Lib.hid hxy
      clear hxy
      gi_wp2_with (refine ⟨trivial, ?_⟩; gi_at_call 40; refine (CallsIn.inRound l (callsIn_wide.2 (at_n _ HQ.out x.1 y HY.out))).mono ?_; rintro e w' ⟨rfl, hb⟩; have e4 := keep hb d4; have k4 := keepf hb (cell_lt d4) g4)
      exact ⟨((keepsO_below hb).trans (KeepsOthers.setCell _ _ _)).from _, ⟨rfl, ⟨x, by simp, by rw [← HY.out]; exact fun e => HX.out e.symm⟩, World.cell?_setCell_same' _ _ _ (by rw [e4]; rfl)⟩, (below_call HB.out (Nat.le_refl _) hb).setCell (p := ⟨w.heap.size + 1, 0, none⟩) (by simp) _⟩
  case done =>
    rintro D ps W hD rfl ⟨⟨hne, _, hcr, hfr⟩, hB⟩ hK
    have HN := Lib.hid hne
    clear hne
    gi_wp2
    have hK' := (KeepsOthers.setCell W ⟨w.heap.size + 1, 0, none⟩ (.bool true)).same D _ hK rfl
    refine ⟨by simp, .inl ⟨_, _, rfl, run_takeDeferred hK', ?_⟩⟩
    have hc5 := cell_kept (World.cell?_setCell_same' W ⟨w.heap.size + 1, 0, none⟩ (.bool true) (by rw [hcr]; rfl)) (grownBy_putObj' _ D (.deferred none)) (fun r e => by cases e; exact ⟨_, hK', rfl⟩)
    refine ⟨.bool true, ?_, by rw [decide_eq_true (same_true HL.out HN.out)], (hB.setCell (p := ⟨w.heap.size + 1, 0, none⟩) (by simp) _).trans (belowK_b (w := w) (Nat.le_refl _) _ D _ _ (by simp at hD; omega) hK' rfl rfl)⟩
    simp [results, Try.f17, go_sem, hc5]
  case stop =>
    rintro D c pre W hD ⟨k, hk, rfl⟩ ⟨⟨rfl, hin, hcr⟩, hB⟩ hK
    have HN := Lib.hid hin
    clear hin
    gi_wp2
    refine ⟨by simp, .inl ⟨_, _, rfl, run_takeDeferred hK, ?_⟩⟩
    have hc5 := cell_kept hcr (grownBy_putObj' _ D (.deferred none)) (fun r e => by cases e; exact ⟨_, hK, rfl⟩)
    refine ⟨.bool false, ?_, by rw [decide_eq_false (same_false HN.out)], hB.trans (belowK_b (w := w) (Nat.le_refl _) W D _ _ (by simp at hD; omega) hK rfl rfl)⟩
    simp [results, Try.f17, go_sem, hc5]
end Go.Proofs.Ytahaclglkbgpcaa
