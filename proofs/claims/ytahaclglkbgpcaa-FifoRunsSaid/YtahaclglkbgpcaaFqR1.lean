/- Put, by contract; Clear with what is there behind it. -/
import Derived.Test.YtahaclglkbgpcaaFqT1
set_option linter.unusedVariables false
set_option linter.unusedSimpArgs false
namespace Go.Proofs.Ytahaclglkbgpcaa
open Go.RowKit Go.Shelf
set_option maxRecDepth 100000

theorem lst_put {cells : List Value} {n first many i : Nat} (x : Value) (hl : cells.length = n) (hf : first < n) (hm : many ≤ n) (hi : i < many) :
    lst (cells.set ((first + i) % n) x) n first many = (lst cells n first many).set i x := by
  apply List.ext_getElem
  · simp [lst]
  · intro k h1 h2
    have hk : k < many := by simpa [lst] using h1
    simp only [lst, List.getElem_map, List.getElem_range, List.getElem_set]
    have e : (first + i) % n < n := Nat.mod_lt _ (by omega)
    by_cases h : i = k
    · subst h
      simp [List.getD, hl, e]
    · have e1 : (first + i) % n ≠ (first + k) % n := by rw [modc hf (by omega), modc hf (by omega)]; split <;> split <;> omega
      simp [List.getD, List.getElem?_set, e1, h]

set_option maxHeartbeats 1000000 in
theorem put_some {w : World} {q lim i : Nat} {vs : List Value} {S : Nat → Prop} (x : Int) (h : Qu IsI 84 3 w q lim vs S) (hi : i < vs.length) :
    Calls Try.prog 42 #[.pointer (some ⟨q, 0, none⟩), .int .i64 (i : Int), .int .i64 x] w fun e w' => e = .returned .nilIface ∧ Qu IsI 84 3 w' q lim (vs.set i (.int .i64 x)) S ∧ Chg S w w' := by
  obtain ⟨ring, n, cap, first, cells, h1, h2, h3, h4⟩ := h
  have hle := h1.many_le
  have hnl := h1.n_le
  have hll := h1.lim_le
  rcases h1.form with ⟨rfl, rfl, rfl⟩ | ⟨g, rfl, hg, hf⟩
  · omega
  · have c2 := h1.c2
    have A := has_t q i vs.length w c2 (by omega) (by omega)
    obtain ⟨m, hm⟩ : ∃ m, m = (first + i) % n := ⟨_, rfl⟩
    have hmn : m < n := by rw [hm]; exact Nat.mod_lt _ (by omega)
    have c0 := h1.c0
    have c1 := h1.c1
    have AT : ∀ W : World, W.heap = w.heap → Calls Try.prog 46 #[.pointer (some ⟨q, 0, none⟩), .int .i64 i] W fun e w' => e = .returned (.int .i64 (m : Int)) ∧ ∃ d, w' = W.drewN d := fun W e => by
      have e2 : ∀ p, W.cell? p = w.cell? p := fun p => by simp [World.cell?, e]
      have := at_q q _ cap i first n W (by omega) hf (by omega) (by rw [e2]; exact c0) (by rw [e2]; exact c1)
      rw [← hm] at this
      exact this
    have HAT := Lib.hid AT
    clear AT c2
    have hlen := h1.len
    have hx := h1.own.cellAt m (by omega)
    rw [List.getElem?_eq_getElem (by omega)] at hx
    have hfz := h1.own.frozenAt m
    have hsg : S g := (h4 g).2 (.inr rfl)
    have HH : Hid (∀ W : World, W.heap = w.heap → Qu IsI 84 3 (W.setCell ⟨g, m, none⟩ (.int .i64 x)) q lim (vs.set i (.int .i64 x)) S) := Lib.hid fun W e => by
      refine ⟨.slice (some ⟨g, 0, none⟩) n cap, n, cap, first, cells.set m (.int .i64 x), ?_, ?_, ?_, h4⟩
      · rw [List.length_set]; exact (h1.heap e).setRing hg m _
      · intro u hu
        rcases List.mem_or_eq_of_mem_set hu with h | h
        · exact h2 u h
        · exact ⟨x, h⟩
      · rw [List.length_set, hm, lst_put _ hlen hf hle hi, h3]
    obtain ⟨u, hu⟩ : ∃ u, w.cell? ⟨g, m, none⟩ = some u := ⟨_, hx⟩
    clear hx
    clear h1 h2 h3 h4 hm hlen
    go_enter Try.func42, Try.ntmps42
    go_wp2_with fail
    refine A.mono ?_
    rintro e w1 ⟨rfl, rfl⟩
    go_wp2_with fail
    go_region_with (go_at_call 46; refine (HAT.out _ (by first | rfl | simp)).mono ?_; rintro e w' ⟨rfl, d, rfl⟩)
    all_goals
      go_wp2_with fail
      go_ret
      exact ⟨rfl, HH.out _ (by first | rfl | simp), (by first | exact (((Chg.refl _ _).drewN _).setCell _ _ hsg) | exact (((Chg.refl _ _).drew.drewN _).setCell _ _ hsg))⟩
end Go.Proofs.Ytahaclglkbgpcaa
