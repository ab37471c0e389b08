/- Queues of ints: what each call does to the row of elements. -/
import Derived.Test.YtahaclglkbgpcaaFq6
set_option linter.unusedVariables false
set_option linter.unusedSimpArgs false
namespace Go.Proofs.Ytahaclglkbgpcaa
open Go.RowKit
set_option maxRecDepth 100000

theorem modc {a i n : Nat} (ha : a < n) (hi : i ≤ n) : (a + i) % n = if a + i < n then a + i else a + i - n := by
  split
  · exact Nat.mod_eq_of_lt (by assumption)
  · rw [Nat.mod_eq_sub_mod (by omega)]; exact Nat.mod_eq_of_lt (by omega)

theorem lst_push {cells : List Value} {n first many : Nat} (x : Value) (hl : cells.length = n) (hf : first < n) (hm : many < n) :
    lst (cells.set ((first + many) % n) x) n first (many + 1) = lst cells n first many ++ [x] := by
  rw [lst_succ]
  congr 1
  · apply List.ext_getElem?
    intro i
    by_cases hi : i < many
    · have e : (first + many) % n ≠ (first + i) % n := by rw [modc hf (by omega), modc hf (by omega)]; split <;> split <;> omega
      simp [lst, List.getElem?_range, hi, List.getD, List.getElem?_set, e]
    · rw [List.getElem?_eq_none (by rw [lst_length]; omega), List.getElem?_eq_none (by rw [lst_length]; omega)]
  · have e : (first + many) % n < n := Nat.mod_lt _ (by omega)
    simp [List.getD, List.getElem?_set, hl, e]

theorem lst_pop {cells : List Value} {n first many : Nat} (x : Value) (hl : cells.length = n) (hf : first < n) (hm : many ≤ n) (h0 : 0 < many) :
    lst (cells.set first x) n ((first + 1) % n) (many - 1) = (lst cells n first many).tail := by
  apply List.ext_getElem?
  intro i
  by_cases hi : i < many - 1
  · have e1 : ((first + 1) % n + i) % n = (first + (i + 1)) % n := by rw [Nat.mod_add_mod]; congr 1; omega
    have e : first ≠ (first + (i + 1)) % n := by rw [modc hf (by omega)]; split <;> omega
    have e2 : (first + 1 + i) % n = (first + (i + 1)) % n := by congr 1; omega
    simp [lst, List.getElem?_range, hi, List.getD, List.getElem?_set, e2, e, show i + 1 < many by omega]
  · rw [List.getElem?_eq_none (by rw [lst_length]; omega), List.getElem?_eq_none (by simp [lst_length]; omega)]

/-- A queue with these elements; S: its blocks. -/
def Qu (El : Value → Prop) (T E : TypeId) (w : World) (q lim : Nat) (vs : List Value) (S : Nat → Prop) : Prop :=
  ∃ ring n cap first cells, QI w q T E ring n cap first vs.length lim cells ∧ (∀ u ∈ cells, El u) ∧ lst cells n first vs.length = vs ∧ ∀ k, S k ↔ k = q ∨ ring.ownBlock = some k

section
variable {El : Value → Prop} {T E : TypeId} {w w' : World} {q lim : Nat} {vs : List Value} {S U : Nat → Prop}
theorem Qu.chg (h : Qu El T E w q lim vs S) (hc : Chg U w w') (hn : ∀ k, S k → ¬ U k) : Qu El T E w' q lim vs S := by
  obtain ⟨ring, n, cap, first, cells, h1, h2, h3, h4⟩ := h
  exact ⟨ring, n, cap, first, cells, h1.chg hc (hn _ ((h4 _).2 (.inl rfl))) (fun k hk => hn _ ((h4 _).2 (.inr hk))), h2, h3, h4⟩
theorem Qu.below (h : Qu El T E w q lim vs S) (hb : Below w.heap.size w w') : Qu El T E w' q lim vs S := by
  obtain ⟨ring, n, cap, first, cells, h1, h2, h3, h4⟩ := h
  exact ⟨ring, n, cap, first, cells, h1.below hb, h2, h3, h4⟩
theorem Qu.heap (h : Qu El T E w q lim vs S) (e : w'.heap = w.heap) : Qu El T E w' q lim vs S := by
  obtain ⟨ring, n, cap, first, cells, h1, h2, h3, h4⟩ := h
  exact ⟨ring, n, cap, first, cells, h1.heap e, h2, h3, h4⟩
theorem Qu.c2 (h : Qu El T E w q lim vs S) : w.cell? ⟨q, 2, none⟩ = some (.int .i64 (vs.length : Int)) := by obtain ⟨_, _, _, _, _, h1, _⟩ := h; exact h1.c2
theorem Qu.c3 (h : Qu El T E w q lim vs S) : w.cell? ⟨q, 3, none⟩ = some (.int .i64 (lim : Int)) := by obtain ⟨_, _, _, _, _, h1, _⟩ := h; exact h1.c3
theorem Qu.le (h : Qu El T E w q lim vs S) : vs.length ≤ lim := by obtain ⟨_, _, _, _, _, h1, _⟩ := h; exact Nat.le_trans h1.many_le h1.n_le
theorem Qu.lim_le (h : Qu El T E w q lim vs S) : lim ≤ 4096 := by obtain ⟨_, _, _, _, _, h1, _⟩ := h; exact h1.lim_le
theorem Qu.lt (h : Qu El T E w q lim vs S) : ∀ k, S k → k < w.heap.size := by
  obtain ⟨_, _, _, _, _, h1, _, _, h4⟩ := h
  intro k hk
  rcases (h4 k).1 hk with rfl | h
  · exact h1.lt
  · exact (h1.own.lt k h).2
theorem Qu.self (h : Qu El T E w q lim vs S) : S q := by obtain ⟨_, _, _, _, _, _, _, _, h4⟩ := h; exact (h4 q).2 (.inl rfl)
end

/-- Ints. -/
def IsI (u : Value) : Prop := ∃ z, u = .int .i64 z

theorem push_ok (T : TypeId) {w : World} {q lim : Nat} {vs : List Value} {S : Nat → Prop} (x : Int) (h : Qu IsI T 3 w q lim vs S) (hm : vs.length < lim) :
    Calls Try.prog 11 #[.pointer (some ⟨q, 0, none⟩), .int .i64 x] w fun e w' => e = .returned .nilIface ∧ ∃ S', Qu IsI T 3 w' q lim (vs ++ [.int .i64 x]) S' ∧ Chg S w w' ∧ ∀ k, S' k → S k ∨ w.heap.size ≤ k := by
  obtain ⟨ring, n, cap, first, cells, h1, h2, h3, h4⟩ := h
  have hq : S q := (h4 q).2 (.inl rfl)
  by_cases hmn : vs.length < n
  · rcases h1.form with ⟨_, h0, _⟩ | ⟨g, hr, hg, hf⟩
    · omega
    · subst hr
      refine (push_room q g T n cap first vs.length lim cells w x h1 hf hmn hg).mono ?_
      rintro e w' ⟨rfl, r1, r2⟩
      refine ⟨rfl, S, ⟨_, n, cap, first, _, by rw [List.length_append]; exact r1, ?_, ?_, h4⟩, r2.mono ?_, fun k hk => .inl hk⟩
      · intro u hu
        rcases List.mem_or_eq_of_mem_set hu with h | h
        · exact h2 u h
        · exact ⟨x, h⟩
      · rw [List.length_append]; exact (lst_push _ h1.len hf hmn).trans (by rw [h3])
      · rintro k _ (rfl | rfl)
        · exact hq
        · exact (h4 _).2 (.inr rfl)
  · have e : vs.length = n := by have := h1.many_le; omega
    by_cases h0 : n = 0
    · have e2 : vs = [] := List.length_eq_zero_iff.1 (by omega)
      subst e2
      subst h0
      rcases h1.form with ⟨rfl, _, rfl⟩ | ⟨g, hr, hg, hf⟩
      · refine (push_first q T cap lim cells w x h1 (by simpa using hm)).mono ?_
        rintro e w' ⟨rfl, g, n', c', l1, r1, r2, r3, r4, r5⟩
        refine ⟨rfl, fun k => k = q ∨ k = g, ⟨_, n', n', 0, c', r1, r2, r3, fun k => by simp [Value.ownBlock, eq_comm]⟩, r5.mono (fun k _ hk => hk ▸ hq), fun k hk => ?_⟩
        rcases hk with rfl | rfl
        · exact .inl hq
        · exact .inr r4
      · omega
    · subst e
      refine (push_grow q T ring vs.length cap first lim cells w x h1 hm (by omega) h2).mono ?_
      rintro e w' ⟨rfl, g, n', c', l1, r1, r2, r3, r4, r5⟩
      refine ⟨rfl, fun k => k = q ∨ k = g, ⟨_, n', n', 0, c', by rw [List.length_append]; exact r1, r2, by rw [List.length_append]; exact r3.trans (by rw [h3]), fun k => by simp [Value.ownBlock, eq_comm]⟩, r5.mono (fun k _ hk => hk ▸ hq), fun k hk => ?_⟩
      rcases hk with rfl | rfl
      · exact .inl hq
      · exact .inr r4

theorem pop_ok (T : TypeId) {w : World} {q lim : Nat} {vs : List Value} {x : Int} {S : Nat → Prop} (h : Qu IsI T 3 w q lim (.int .i64 x :: vs) S) :
    Calls Try.prog 10 #[.pointer (some ⟨q, 0, none⟩)] w fun e w' => e = .returned (.tuple #[.int .i64 x, .nilIface]) ∧ Qu IsI T 3 w' q lim vs S ∧ Chg S w w' := by
  obtain ⟨ring, n, cap, first, cells, h1, h2, h3, h4⟩ := h
  have hm := h1.many_le
  simp only [List.length_cons] at hm h3
  rcases h1.form with ⟨_, h0, _⟩ | ⟨g, hr, hg, hf⟩
  · omega
  · subst hr
    have hx : cells[first]? = some (.int .i64 x) := by
      have := congrArg (fun l => l[0]?) h3
      simp [lst, List.getElem?_range, Nat.mod_eq_of_lt hf] at this
      have hl := h1.len
      rw [List.getElem?_eq_getElem (by omega)] at this ⊢
      simpa using this
    refine (pop_some q g T 3 n cap first (vs.length + 1) lim cells x w h1 hg hf (by omega) hx).mono ?_
    rintro e w' ⟨rfl, r1, r2⟩
    refine ⟨rfl, ⟨_, n, cap, _, _, r1, ?_, ?_, h4⟩, r2.mono ?_⟩
    · intro u hu
      rcases List.mem_or_eq_of_mem_set hu with h | h
      · exact h2 u h
      · exact ⟨0, h⟩
    · have := lst_pop (.int .i64 0) h1.len hf hm (by omega)
      rw [h3] at this
      exact this
    · rintro k _ (rfl | rfl)
      · exact (h4 _).2 (.inl rfl)
      · exact (h4 _).2 (.inr rfl)

end Go.Proofs.Ytahaclglkbgpcaa
