/- Drop, by contract. -/
import Derived.Deep.RegionWith
import Derived.Test.YtahaclglkbgpcaaFqR2
set_option linter.unusedVariables false
set_option linter.unusedSimpArgs false
namespace Go.Proofs.Ytahaclglkbgpcaa
open Go.RowKit Go.Shelf
set_option maxRecDepth 100000

theorem at_map {w : World} {q lim : Nat} {zs : List Int} {S : Nat → Prop} (h : Qu IsI 84 3 w q lim (zs.map (Value.int .i64)) S) (i : Int) :
    Calls Try.prog 40 #[.pointer (some ⟨q, 0, none⟩), .int .i64 i] w fun e w' => e = .returned (.tuple #[.int .i64 (if 0 ≤ i then zs[i.toNat]?.getD 0 else 0), .bool (decide (0 ≤ i ∧ i < zs.length))]) ∧ Below w.heap.size w w' :=
  at_o w (.inr ⟨q, rfl, ⟨S, h, fun _ _ f => f⟩⟩ : QO (fun _ => False) w (some ⟨q, 0, none⟩) lim zs) i

/-- One fewer. -/
theorem Qu.shrink {w : World} {q lim j : Nat} {zs : List Int} {S : Nat → Prop} (h : Qu IsI 84 3 w q lim (zs.map (Value.int .i64)) S) (hl : zs.length = j + 1) : Qu IsI 84 3 (w.setCell ⟨q, 2, none⟩ (.int .i64 (j : Int))) q lim (zs.dropLast.map (Value.int .i64)) S := by
  obtain ⟨ring, n, cap, first, cells, h1, h2, h3, h4⟩ := h
  have hle := h1.many_le
  rw [List.length_map, hl] at hle h3
  refine ⟨ring, n, cap, first, cells, ?_, h2, ?_, h4⟩
  · rw [List.length_map, List.length_dropLast, hl]
    exact h1.set2 j (by omega)
  · rw [List.length_map, List.length_dropLast, hl]
    have e : (lst cells n first (j + 1)).dropLast = lst cells n first j := by rw [lst_succ, List.dropLast_concat]
    rw [Nat.add_sub_cancel, ← e, h3, List.map_dropLast]

set_option maxHeartbeats 2000000 in
theorem drop_some {w : World} {q lim i : Nat} {zs : List Int} {S : Nat → Prop} (h : Qu IsI 84 3 w q lim (zs.map (Value.int .i64)) S) (hi : i < zs.length) :
    Calls Try.prog 41 #[.pointer (some ⟨q, 0, none⟩), .int .i64 (i : Int)] w fun e w' => e = .returned (.tuple #[.int .i64 (zs.getD i 0), .nilIface]) ∧ Qu IsI 84 3 w' q lim ((zs.eraseIdx i).map (Value.int .i64)) S ∧ Chg S w w' := by
  have A := at_map h i
  have a1 : (0 : Int) ≤ (i : Int) := by omega
  have a2 : decide ((0 : Int) ≤ (i : Int) ∧ (i : Int) < (zs.length : Int)) = true := by simp; omega
  rw [if_pos a1, a2] at A
  have a3 : zs[(i : Int).toNat]?.getD 0 = zs.getD i 0 := by simp [List.getD]
  rw [a3] at A
  obtain ⟨x, hx⟩ : ∃ x, x = zs.getD i 0 := ⟨_, rfl⟩
  rw [← hx] at A ⊢
  have HA := Lib.hid A
  have HX := Lib.hid hx
  have H0 := Lib.hid h
  have hml : zs.length ≤ 4096 := by have := h.le; have := h.lim_le; rw [List.length_map] at *; omega
  obtain ⟨len, hlen⟩ : ∃ len, len = zs.length := ⟨_, rfl⟩
  rw [← hlen] at hi hml
  have HL := Lib.hid hlen
  clear A hx h hlen a1 a2 a3
  go_enter Try.func41, Try.ntmps41
  go_wp2_with fail
  refine HA.out.mono ?_
  rintro e w1 ⟨rfl, hb⟩
  have H1 := Lib.hid (H0.out.below hb)
  have HC1 := Lib.hid (Chg.ofBelow hb S)
  clear hb HA H0
  go_wp2_with fail
  go_loopw [1] (fun v wr => ∃ j : Nat, i ≤ j ∧ j + 1 ≤ len ∧ v = .int .i64 j ∧ Hid (Qu IsI 84 3 wr q lim ((sh i j zs).map (Value.int .i64)) S) ∧ Hid (Chg S w wr)) (fun v _ => len - (intOf v).toNat)
  case atStart => exact ⟨i, Nat.le_refl _, by omega, rfl, Lib.hid (by rw [sh_start]; exact H1.out), HC1⟩
  case round =>
    obtain ⟨j, hij, hjl, rfl, HQ, HC⟩ := hrel
    have hsl : (sh i j zs).length = len := by rw [sh_length]; exact HL.out.symm
    have c2 : wr.cell? ⟨q, 2, none⟩ = some (.int .i64 (len : Int)) := by have := HQ.out.c2; rw [List.length_map, hsl] at this; exact this
    obtain ⟨g, n, cap, first, c0, c1, f1, f2, f3, sg, sq, gq, hcell, hput⟩ := HQ.out.place (by rw [hsl]; omega)
    rw [hsl] at f3 hcell hput
    have AT : ∀ (k : Nat) (W : World), W.heap = wr.heap → k < len → Calls Try.prog 46 #[.pointer (some ⟨q, 0, none⟩), .int .i64 (k : Int)] W fun e w' => e = .returned (.int .i64 (((first + k) % n : Nat) : Int)) ∧ ∃ d, w' = W.drewN d := fun k W e hk => by
      have e2 : ∀ p, W.cell? p = wr.cell? p := fun p => by simp [World.cell?, e]
      exact at_q q _ cap k first n W (by omega) f1 (by omega) (by rw [e2]; exact c0) (by rw [e2]; exact c1)
    obtain ⟨m1, hm1⟩ : ∃ m1, m1 = (first + j) % n := ⟨_, rfl⟩
    have l1 : m1 < n := by rw [hm1]; exact Nat.mod_lt _ (by omega)
    have A1 : ∀ W : World, W.heap = wr.heap → Calls Try.prog 46 #[.pointer (some ⟨q, 0, none⟩), .int .i64 (j : Int)] W fun e w' => e = .returned (.int .i64 (m1 : Int)) ∧ ∃ d, w' = W.drewN d := fun W e => by rw [hm1]; exact AT j W e (by omega)
    have HA1 := Lib.hid A1
    have x1 := hcell j (by omega)
    rw [← hm1] at x1
    obtain ⟨x1, z1⟩ := x1
    by_cases hlt : j + 1 < len
    · obtain ⟨m2, hm2⟩ : ∃ m2, m2 = (first + (j + 1)) % n := ⟨_, rfl⟩
      have l2 : m2 < n := by rw [hm2]; exact Nat.mod_lt _ (by omega)
      have A2 : ∀ W : World, W.heap = wr.heap → Calls Try.prog 46 #[.pointer (some ⟨q, 0, none⟩), .int .i64 ((j : Int) + 1)] W fun e w' => e = .returned (.int .i64 (m2 : Int)) ∧ ∃ d, w' = W.drewN d := fun W e => by rw [hm2]; have := AT (j + 1) W e (by omega); simpa using this
      have HA2 := Lib.hid A2
      have x2 := (hcell (j + 1) hlt).1
      have xe : (sh i j zs).getD (j + 1) 0 = zs.getD (j + 1) 0 := by
        have := sh_at (i := i) (j := j) (zs := zs) (by rw [← HL.out]; exact hlt)
        rw [List.getD, this]
        rfl
      rw [← hm2, xe] at x2
      have HP : Hid (∀ W : World, W.heap = wr.heap → Qu IsI 84 3 (W.setCell ⟨g, m1, none⟩ (.int .i64 (zs.getD (j + 1) 0))) q lim ((sh i (j + 1) zs).map (Value.int .i64)) S) := Lib.hid fun W e => by
        have := hput W j (zs.getD (j + 1) 0) e (by omega)
        rw [sh_next hij (by rw [← HL.out]; exact hlt), ← hm1] at this
        exact this
      obtain ⟨x, hx⟩ : ∃ x, x = zs.getD (j + 1) 0 := ⟨_, rfl⟩
      rw [← hx] at x2 HP
      have hwr : IntKind.i64.wrap ((j : Int) + 1) = (j : Int) + 1 := by simp [IntKind.wrap, IntKind.bits, IntKind.signed]; omega
      have tlt : decide ((j : Int) + 1 < (len : Int)) = true := by simp; omega
      clear AT hcell hput hm1 hm2 A1 A2 xe hx hsl
      go_wp2_with fail
      first
        | go_region_with (first
            | (go_at_call_of 46 (Value.int IntKind.i64 (j : Int)); (refine Calls.mono (HA1.out _ ?_) ?_); (· first | rfl | simp); rintro e w' ⟨rfl, d, rfl⟩)
            | (go_at_call 46; (refine Calls.mono (HA2.out _ ?_) ?_); (· first | rfl | simp); rintro e w' ⟨rfl, d, rfl⟩))
        | fail
      all_goals
        go_wp2_with fail
        go_roundw
        case rel =>
          refine ⟨j + 1, by omega, by omega, by go_num, Lib.hid (HP.out _ (by first | rfl | simp)), ?_⟩
          first
            | exact Lib.hid ((HC.out.trans ((Chg.refl _ _).drewN _)).setCell _ _ sg)
            | exact Lib.hid (((HC.out.trans (Chg.refl _ _).drew).trans ((Chg.refl _ _).drewN _)).setCell _ _ sg)
        case measure => simp [intOf]; omega
    · obtain rfl : len = j + 1 := by omega
      have HE : Hid (∀ W : World, W.heap = wr.heap → Qu IsI 84 3 ((W.setCell ⟨g, m1, none⟩ (.int .i64 0)).setCell ⟨q, 2, none⟩ (.int .i64 (j : Int))) q lim ((zs.eraseIdx i).map (Value.int .i64)) S) := Lib.hid fun W e => by
        have := hput W j 0 e (by omega)
        rw [← hm1] at this
        have h2 := this.shrink (by rw [List.length_set, hsl])
        have e3 : ((sh i j zs).set j 0).dropLast = zs.eraseIdx i := by
          have e4 : j = zs.length - 1 := by have := HL.out; omega
          rw [← sh_end (i := i) (zs := zs) (by rw [← HL.out]; exact hi), ← e4]
          apply List.ext_getElem
          · simp
          · intro k k1 k2
            have : j ≠ k := by have := k1; simp [sh_length, ← HL.out] at this; omega
            simp [List.getElem_set, this]
        rw [e3] at h2
        exact h2
      clear AT hcell hput hm1 A1 hsl
      have c2z := HQ.out
      have z2 : wr.frozen? ⟨q, 2, none⟩ = false := by
        obtain ⟨_, _, _, _, _, e1, _⟩ := c2z
        exact e1.fz 2
      clear c2z
      go_wp2_with fail
      first
        | go_region_with (go_at_call 46; (refine Calls.mono (HA1.out _ ?_) ?_); (· first | rfl | simp); rintro e w' ⟨rfl, d, rfl⟩)
        | fail
      all_goals
        go_wp2_with fail
        go_ret2
        refine ⟨rfl, HE.out _ (by first | rfl | simp), ?_⟩
        first
          | exact ((HC.out.trans ((Chg.refl _ _).drewN _)).setCell _ _ sg).setCell _ _ sq
          | exact (((HC.out.trans (Chg.refl _ _).drew).trans ((Chg.refl _ _).drewN _)).setCell _ _ sg).setCell _ _ sq
end Go.Proofs.Ytahaclglkbgpcaa
