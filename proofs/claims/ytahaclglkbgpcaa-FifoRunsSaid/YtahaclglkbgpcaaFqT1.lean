/- Twin, Clear, and same, by contract. -/
import Derived.Lib.SliceRun
import Derived.Deep.RegionWith
import Derived.Test.YtahaclglkbgpcaaFqA5
import Derived.Test.YtahaclglkbgpcaaFqOrder
set_option linter.unusedVariables false
set_option linter.unusedSimpArgs false
namespace Go.Proofs.Ytahaclglkbgpcaa
open Go.RowKit Go.Shelf
set_option maxRecDepth 100000

theorem owns_mono {w : World} {B B' : Nat} {e : TypeId} {s n : Nat} {v : Value} {xs : List Value} (h : w.ownsRow B e s v n xs) (hB : B' ≤ B) : w.ownsRow B' e s v n xs :=
  ⟨h.1, h.2.imp id fun ⟨g, c, cur, e, hb, r⟩ => ⟨g, c, cur, e, Nat.le_trans hB hb, r⟩⟩

theorem twin_fin {w : World} {lim m : Nat} {v : Value} {vs : List Value} (h0 : w.ownsRow 0 3 1 v vs.length vs) (hf : v = .slice none 0 0 ∧ vs.length = 0 ∨ ∃ g c, v = .slice (some ⟨g, 0, none⟩) vs.length c ∧ 0 < vs.length) (hv : ∀ u ∈ vs, IsI u) (hl : vs.length ≤ lim) (hll : lim ≤ 4096) (hm : m = vs.length) (W : World) (hW : W = w.alloc (.cells #[v, .int .i64 0, .int .i64 (m : Int), .int .i64 (lim : Int)] 84)) (B : Nat) (hB : B ≤ w.heap.size) (hvB : ∀ g, v.ownBlock = some g → B ≤ g) :
    ∃ S', Qu IsI 84 3 W w.heap.size lim vs S' ∧ ∀ k, S' k → B ≤ k := by
  subst hW hm
  have hh := World.alloc_heap_new w (.cells #[v, .int .i64 0, .int .i64 (vs.length : Int), .int .i64 (lim : Int)] 84)
  refine ⟨fun k => k = w.heap.size ∨ v.ownBlock = some k, ?_, fun k hk => ?_⟩
  · rcases hf with ⟨rfl, e⟩ | ⟨g, c, rfl, hp⟩
    · have hvs : vs = [] := List.length_eq_zero_iff.1 e
      subst hvs
      exact ⟨.slice none 0 0, 0, 0, 0, [], ⟨hh, (h0.alloc _), .inl ⟨rfl, rfl, rfl⟩, Nat.le_refl _, Nat.zero_le _, hll⟩, by simp, by simp [lst], fun k => Iff.rfl⟩
    · have hg := (h0.lt g rfl).2
      refine ⟨.slice (some ⟨g, 0, none⟩) vs.length c, vs.length, c, 0, vs, ⟨hh, (h0.alloc _), .inr ⟨g, rfl, by omega, hp⟩, Nat.le_refl _, hl, hll⟩, hv, ?_, fun k => Iff.rfl⟩
      apply List.ext_getElem
      · simp [lst]
      · intro i h1 h2
        simp [lst, Nat.mod_eq_of_lt h2, h2]
  · rcases hk with rfl | h
    · exact hB
    · exact hvB k h

set_option maxHeartbeats 1000000 in
theorem twin_ok {w : World} {q lim : Nat} {vs : List Value} {S : Nat → Prop} (h : Qu IsI 84 3 w q lim vs S) (hI : ∀ u ∈ vs, IsI u) :
    Calls Try.prog 16 #[.pointer (some ⟨q, 0, none⟩)] w fun e w' => ∃ t, e = .returned (.pointer (some ⟨t, 0, none⟩)) ∧ (∃ S', Qu IsI 84 3 w' t lim vs S' ∧ ∀ k, S' k → w.heap.size ≤ k) ∧ Below w.heap.size w w' := by
  obtain ⟨ring, n, cap, first, cells, h1, h2, h3, h4⟩ := h
  have c2 := h1.c2
  have c3 := h1.c3
  have hle : vs.length ≤ lim := Nat.le_trans h1.many_le h1.n_le
  have hll := h1.lim_le
  obtain ⟨m, hm⟩ : ∃ m, m = vs.length := ⟨_, rfl⟩
  have L : ∀ w2 : World, w2 = w ∨ w2 = w.drew → Calls Try.prog 14 #[.pointer (some ⟨q, 0, none⟩)] w2 fun e w' => ∃ a c, e = .returned (.slice a m c) ∧ w'.ownsRow w.heap.size 3 1 (.slice a m c) vs.length vs ∧ (a = none ∧ c = 0 ∧ vs.length = 0 ∨ ∃ g, a = some ⟨g, 0, none⟩ ∧ 0 < vs.length) ∧ Below w2.heap.size w2 w' := by
    intro w2 hw
    have e2 : w2.heap = w.heap := by rcases hw with rfl | rfl <;> rfl
    have hq := h1.heap e2
    rw [← show w2.heap.size = w.heap.size by rw [e2]]
    by_cases h0 : vs.length = 0
    · have hv : vs = [] := List.length_eq_zero_iff.1 h0
      subst hv
      refine (list_none q w2 hq.c2).mono ?_
      rintro e w' ⟨rfl, rfl⟩
      subst hm
      exact ⟨none, 0, rfl, World.ownsRow_nil _ _ _ _, .inl ⟨rfl, rfl, rfl⟩, Below.refl _ _⟩
    · have L := list_ok q _ ring n cap first vs.length lim cells w2 hq h2
      rw [h3] at L
      refine L.mono ?_
      rintro e w' ⟨v, rfl, r1, r2⟩
      obtain ⟨g, c, rfl, _⟩ := r1.form (by omega)
      subst hm
      exact ⟨_, _, rfl, r1, .inr ⟨g, rfl, by omega⟩, r2⟩
  have HL := Lib.hid L
  clear L h1 h2 h3 h4
  have HI := Lib.hid hI
  clear hI
  rw [← hm] at c2
  have HM := Lib.hid hm
  clear hm
  go_enter Try.func16, Try.ntmps16
  go_wp2_with fail
  go_region_with (go_at_call 14; refine (HL.out _ (by first | exact .inl rfl | exact .inr rfl)).mono ?_; rintro e w' ⟨a, c, rfl, hown, hf, hb⟩; have HO := Lib.hid hown; have HF := Lib.hid hf; have HB := Lib.hid hb; have d2 : w'.cell? ⟨q, 2, none⟩ = some (.int .i64 (m : Int)) := keep hb c2; have d3 : w'.cell? ⟨q, 3, none⟩ = some (.int .i64 (lim : Int)) := keep hb c3; clear hown hf hb)
  all_goals
    go_wp2_with fail
    go_ret
    have hs : w.heap.size ≤ w'.heap.size := HB.out.size
    refine ⟨_, rfl, twin_fin (owns_mono HO.out (Nat.zero_le _)) (by have := HM.out; rcases HF.out with ⟨rfl, rfl, h⟩ | ⟨g, rfl, h⟩; exact .inl ⟨by rw [this, h], h⟩; exact .inr ⟨g, c, by rw [this], h⟩) HI.out hle hll HM.out _ rfl _ hs (fun g hg => (HO.out.lt g hg).1), ?_⟩
    have b2 : Below w.heap.size w w' := by first | exact HB.out | exact (Below.drew (Below.refl _ _)).trans HB.out
    exact b2.alloc hs _

theorem chg_setCells {S : Nat → Prop} {g : Nat} (hg : S g) : ∀ (vs : List Value) (o : Nat) (w : World), Chg S w (w.setCells g o vs)
  | [], o, w => Chg.refl _ _
  | v :: vs, o, w => (Chg.setCell (Chg.refl S w) ⟨g, o, none⟩ v hg).trans (chg_setCells hg vs (o + 1) _)

theorem zero_int (w : World) : (zeroValue 3).run Try.prog w = .ok (.int .i64 0) w := by kernel_rfl

set_option maxHeartbeats 1000000 in
theorem clear_ok {w : World} {q lim : Nat} {vs : List Value} {S : Nat → Prop} (h : Qu IsI 84 3 w q lim vs S) :
    Calls Try.prog 20 #[.pointer (some ⟨q, 0, none⟩)] w fun e w' => e = .returned (.int .i64 (vs.length : Int)) ∧ Chg S w w' := by
  obtain ⟨ring, n, cap, first, cells, h1, h2, h3, h4⟩ := h
  have c2 := h1.c2
  have hle := h1.many_le
  have hll := h1.lim_le
  have hnl := h1.n_le
  by_cases h0 : vs.length = 0
  · rw [h0] at c2
    have A := len_ok q 0 w c2
    rw [h0]
    clear h1 h2 h3 h4
    go_enter Try.func20, Try.ntmps20
    go_wp2_with fail
    refine A.mono ?_
    rintro e w1 ⟨rfl, rfl⟩
    go_wp2_with fail
    go_ret
    exact ⟨rfl, Chg.refl _ _⟩
  · rcases h1.form with ⟨rfl, rfl, rfl⟩ | ⟨g, rfl, hg, hf⟩
    · omega
    · have A := len_ok q vs.length w c2
      have t0 : decide ((0 : Int) < (vs.length : Int)) = true := by simp; omega
      have c0 := h1.c0
      have hlen := h1.len
      have hown := h1.own
      have hsq : S q := (h4 q).2 (.inl rfl)
      have hsg : S g := (h4 g).2 (.inr rfl)
      have CL := Lib.run_clear_slice (P := Try.prog) w 32 3 0 (.int .i64 0) Try.underlying32 zero_int rfl rfl g 0 n cap (by omega) (fun j hj => by rw [Nat.zero_add, hown.cellAt j (by omega)]; simp; omega) (fun j hj => by rw [Nat.zero_add]; exact hown.frozenAt j)
      obtain ⟨w2, hw2⟩ : ∃ w2, w2 = w.setCells g 0 (List.replicate n (.int .i64 0)) := ⟨_, rfl⟩
      rw [← hw2] at CL
      have C2 : Chg (fun k => k = g) w w2 := by rw [hw2]; exact chg_setCells (S := fun k => k = g) rfl _ _ _
      have D : ∀ p : Addr, p.block = q → w2.cell? p = w.cell? p := fun p hp => by
        have := C2.block q h1.lt (fun e => hg e.symm)
        simp only [World.cell?, hp, this]
      have F : ∀ p : Addr, p.block = q → w2.frozen? p = w.frozen? p := fun p hp => by
        have := C2.block q h1.lt (fun e => hg e.symm)
        simp only [World.frozen?, hp, this]
      have d1 : w2.cell? ⟨q, 1, none⟩ = some (.int .i64 (first : Int)) := (D _ rfl).trans h1.c1
      have d2 : w2.cell? ⟨q, 2, none⟩ = some (.int .i64 (vs.length : Int)) := (D _ rfl).trans c2
      have f1 : w2.frozen? ⟨q, 1, none⟩ = false := (F _ rfl).trans (h1.fz 1)
      have f2 : w2.frozen? ⟨q, 2, none⟩ = false := (F _ rfl).trans (h1.fz 2)
      have HC := Lib.hid (C2.mono (T := S) (fun k _ hk => hk ▸ hsg))
      clear hw2 C2 D F h1 h2 h3 h4 hown hlen
      go_enter Try.func20, Try.ntmps20
      go_wp2_with fail
      refine A.mono ?_
      rintro e w1 ⟨rfl, rfl⟩
      go_wp2_with fail
      go_ret
      exact ⟨rfl, (HC.out.setCell ⟨q, 1, none⟩ _ hsq).setCell ⟨q, 2, none⟩ _ hsq⟩

/-- same, of two slices with the same elements. -/
theorem same_t (a b : Option Addr) (n ca cb : Nat) (f : Nat → Int) (w : World) (hn : n ≤ 2 ^ 63 - 1) (ha : n = 0 ∨ ∃ g o, a = some ⟨g, o, none⟩ ∧ ∀ i, i < n → w.cell? ⟨g, o + i, none⟩ = some (.int .i64 (f i)))
    (hb : n = 0 ∨ ∃ g o, b = some ⟨g, o, none⟩ ∧ ∀ i, i < n → w.cell? ⟨g, o + i, none⟩ = some (.int .i64 (f i))) :
    Calls Try.prog 19 #[.slice a n ca, .slice b n cb] w fun e w' => e = .returned (.bool true) ∧ Below w.heap.size w w' := by
  have HA := Lib.hid ha
  have HB := Lib.hid hb
  clear ha hb
  go_enter Try.func19, Try.ntmps19
  go_wp2
  go_loopw [5] (fun i wr => ∃ k d : Nat, k ≤ n ∧ i = .int .i64 k ∧ wr = w.drewN d) (fun i _ => n - (intOf i).toNat)
  case atStart => exact ⟨0, 0, Nat.zero_le _, rfl, rfl⟩
  case round =>
    obtain ⟨k, d, hk, rfl, rfl⟩ := hrel
    by_cases hlt : k < n
    · obtain ⟨g, o, rfl, h1⟩ := HA.out.resolve_left (by omega)
      obtain ⟨g', o', rfl, h2⟩ := HB.out.resolve_left (by omega)
      have e1 := h1 k hlt
      have e2 := h2 k hlt
      clear h1 h2
      go_wp2
      go_quiet (fail)
      go_wp2
      go_roundw
      case rel => exact ⟨k + 1, d + nq, by omega, by go_num, rfl⟩
      case measure => simp [intOf]; omega
    · have e : k = n := by omega
      subst e
      go_wp2
      go_ret
      exact ⟨rfl, below_drewN' (Below.refl _ _) _⟩
end Go.Proofs.Ytahaclglkbgpcaa
