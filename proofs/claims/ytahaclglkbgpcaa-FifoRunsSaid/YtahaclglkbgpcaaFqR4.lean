/- Put and Drop beyond the row; Clear with what is there behind it. -/
import Derived.Test.YtahaclglkbgpcaaFqR3
set_option linter.unusedVariables false
set_option linter.unusedSimpArgs false
namespace Go.Proofs.Ytahaclglkbgpcaa
open Go.RowKit Go.Shelf
set_option maxRecDepth 100000

theorem has_out (q : Nat) (i many : Int) (w : World) (c2 : w.cell? ⟨q, 2, none⟩ = some (.int .i64 many)) (h : ¬ (0 ≤ i ∧ i < many)) :
    Calls Try.prog 45 #[.pointer (some ⟨q, 0, none⟩), .int .i64 i] w fun e w' => e = .returned (.bool false) ∧ w = w' := by
  by_cases h0 : i < 0
  · exact has_lo q i w h0
  · exact has_hi q i many w c2 (by omega) (by omega)

theorem put_none (q : Nat) (i many x : Int) (w : World) (c2 : w.cell? ⟨q, 2, none⟩ = some (.int .i64 many)) (h : ¬ (0 ≤ i ∧ i < many)) :
    Calls Try.prog 42 #[.pointer (some ⟨q, 0, none⟩), .int .i64 i, .int .i64 x] w fun e w' => e = .returned (.iface 94 (.int .i64 50)) ∧ w = w' := by
  have A := has_out q i many w c2 h
  clear h
  go_enter Try.func42, Try.ntmps42
  go_wp2_with fail
  refine A.mono ?_
  rintro e w1 ⟨rfl, rfl⟩
  go_wp2_with fail
  go_ret
  exact ⟨rfl, rfl⟩

theorem drop_none {w : World} {q lim : Nat} {zs : List Int} {S : Nat → Prop} (h : Qu IsI 84 3 w q lim (zs.map (Value.int .i64)) S) (i : Int) (hi : ¬ (0 ≤ i ∧ i < zs.length)) :
    Calls Try.prog 41 #[.pointer (some ⟨q, 0, none⟩), .int .i64 i] w fun e w' => e = .returned (.tuple #[.int .i64 0, .iface 94 (.int .i64 50)]) ∧ Below w.heap.size w w' := by
  have A := at_map h i
  have e1 : (if 0 ≤ i then zs[i.toNat]?.getD 0 else 0) = 0 := by
    split
    · rw [List.getElem?_eq_none (by omega)]; rfl
    · rfl
  have e2 : decide (0 ≤ i ∧ i < (zs.length : Int)) = false := by simpa using hi
  rw [e1, e2] at A
  clear h hi e1 e2
  go_enter Try.func41, Try.ntmps41
  go_wp2_with fail
  refine A.mono ?_
  rintro e w1 ⟨rfl, hb⟩
  have HB := Lib.hid hb
  clear hb
  go_wp2_with fail
  go_ret2
  exact ⟨rfl, HB.out⟩

theorem clear_nil (T : TypeId) {w : World} {q g n cap first lim : Nat} {cells : List Value} (h : QI w q T 3 (.slice (some ⟨g, 0, none⟩) n cap) n cap first 0 lim cells) (hI : ∀ u ∈ cells, IsI u) (S : Nat → Prop) (hS : ∀ k, S k ↔ k = q ∨ (Value.slice (some ⟨g, 0, none⟩) n cap).ownBlock = some k) : Qu IsI T 3 w q lim [] S :=
  ⟨_, n, cap, first, cells, h, hI, by simp [lst], hS⟩

/-- The cells that clear has set. -/
theorem owns_cleared {w : World} {g n cap : Nat} {cells : List Value} (h : w.ownsRow 0 3 1 (.slice (some ⟨g, 0, none⟩) n cap) n cells) : ∃ cs, (w.setCells g 0 (List.replicate n (.int .i64 0))).ownsRow 0 3 1 (.slice (some ⟨g, 0, none⟩) n cap) n cs ∧ ∀ u ∈ cs, IsI u ∨ u ∈ cells := by
  have key : ∀ (m o : Nat) (w : World) (cs : List Value), w.ownsRow 0 3 1 (.slice (some ⟨g, 0, none⟩) n cap) n cs → (∀ u ∈ cs, IsI u ∨ u ∈ cells) → ∃ cs', (w.setCells g o (List.replicate m (.int .i64 0))).ownsRow 0 3 1 (.slice (some ⟨g, 0, none⟩) n cap) n cs' ∧ ∀ u ∈ cs', IsI u ∨ u ∈ cells := by
    intro m
    induction m with
    | zero => intro o w cs h1 h2; exact ⟨cs, h1, h2⟩
    | succ m ih =>
      intro o w cs h1 h2
      obtain ⟨r1, r2⟩ := h1.stored o (.int .i64 0)
      refine ih (o + 1) _ _ r1 ?_
      intro u hu
      rcases List.mem_or_eq_of_mem_set hu with h | h
      · exact h2 u h
      · exact .inl ⟨0, h⟩
  exact key n 0 w cells h (fun u hu => .inr hu)

set_option maxHeartbeats 1000000 in
theorem clear_full {w : World} {q lim : Nat} {vs : List Value} {S : Nat → Prop} (h : Qu IsI 84 3 w q lim vs S) :
    Calls Try.prog 20 #[.pointer (some ⟨q, 0, none⟩)] w fun e w' => e = .returned (.int .i64 (vs.length : Int)) ∧ Qu IsI 84 3 w' q lim [] S ∧ Chg S w w' := by
  have h0' := h
  obtain ⟨ring, n, cap, first, cells, h1, h2, h3, h4⟩ := h
  have c2 := h1.c2
  have hle := h1.many_le
  have hll := h1.lim_le
  have hnl := h1.n_le
  by_cases h0 : vs.length = 0
  · have hv : vs = [] := List.length_eq_zero_iff.1 h0
    subst hv
    have HQ0 := Lib.hid h0'
    clear h0'
    rw [h0] at c2
    have A := len_ok q 0 w c2
    rw [h0]
    clear h1 h2 h3 h4
    go_enter Try.func20, Try.ntmps20
    go_wp2_with fail
    refine A.mono ?_
    rintro e w1 ⟨rfl, rfl⟩
    go_wp2_with fail
    go_ret
    exact ⟨rfl, HQ0.out, Chg.refl _ _⟩
  · rcases h1.form with ⟨rfl, rfl, rfl⟩ | ⟨g, rfl, hg, hf⟩
    · omega
    · have A := len_ok q vs.length w c2
      have t0 : decide ((0 : Int) < (vs.length : Int)) = true := by simp; omega
      have c0 := h1.c0
      have hlen := h1.len
      have hown := h1.own
      have hsq : S q := (h4 q).2 (.inl rfl)
      have hsg : S g := (h4 g).2 (.inr rfl)
      have CL := Lib.run_clear_slice (P := Try.prog) w 32 3 0 (.int .i64 0) Try.underlying32 zero_int rfl rfl g 0 n cap (by omega) (fun j hj => by rw [Nat.zero_add, hown.cellAt j (by omega)]; simp; omega) (fun j hj => by rw [Nat.zero_add]; exact hown.frozenAt j)
      obtain ⟨w2, hw2⟩ : ∃ w2, w2 = w.setCells g 0 (List.replicate n (.int .i64 0)) := ⟨_, rfl⟩
      rw [← hw2] at CL
      have C2 : Chg (fun k => k = g) w w2 := by rw [hw2]; exact chg_setCells (S := fun k => k = g) rfl _ _ _
      have D : ∀ p : Addr, p.block = q → w2.cell? p = w.cell? p := fun p hp => by
        have := C2.block q h1.lt (fun e => hg e.symm)
        simp only [World.cell?, hp, this]
      have F : ∀ p : Addr, p.block = q → w2.frozen? p = w.frozen? p := fun p hp => by
        have := C2.block q h1.lt (fun e => hg e.symm)
        simp only [World.frozen?, hp, this]
      have d1 : w2.cell? ⟨q, 1, none⟩ = some (.int .i64 (first : Int)) := (D _ rfl).trans h1.c1
      have d2 : w2.cell? ⟨q, 2, none⟩ = some (.int .i64 (vs.length : Int)) := (D _ rfl).trans c2
      have f1 : w2.frozen? ⟨q, 1, none⟩ = false := (F _ rfl).trans (h1.fz 1)
      have f2 : w2.frozen? ⟨q, 2, none⟩ = false := (F _ rfl).trans (h1.fz 2)
      obtain ⟨cs, o1, o2⟩ := owns_cleared hown
      rw [← hw2] at o1
      have hq2 : w2.heap[q]? = w.heap[q]? := C2.block q h1.lt (fun e => hg e.symm)
      have HE : Hid (Qu IsI 84 3 ((w2.setCell ⟨q, 1, none⟩ (.int .i64 0)).setCell ⟨q, 2, none⟩ (.int .i64 0)) q lim [] S) := Lib.hid (by
        have k1 : QI w2 q 84 3 (.slice (some ⟨g, 0, none⟩) n cap) n cap first vs.length lim cs := ⟨by rw [hq2]; exact h1.blk, o1, .inr ⟨g, rfl, hg, hf⟩, hle, hnl, hll⟩
        have k2 := (k1.set1 0 (by omega)).set2 0 (by omega)
        exact clear_nil _ k2 (fun u hu => by rcases o2 u hu with h | h; exact h; exact h2 u h) S h4)
      clear h0' o1 o2 hq2
      have HC := Lib.hid (C2.mono (T := S) (fun k _ hk => hk ▸ hsg))
      clear hw2 C2 D F h1 h2 h3 h4 hown hlen
      go_enter Try.func20, Try.ntmps20
      go_wp2_with fail
      refine A.mono ?_
      rintro e w1 ⟨rfl, rfl⟩
      go_wp2_with fail
      go_ret
      exact ⟨rfl, HE.out, (HC.out.setCell ⟨q, 1, none⟩ _ hsq).setCell ⟨q, 2, none⟩ _ hsq⟩

end Go.Proofs.Ytahaclglkbgpcaa
