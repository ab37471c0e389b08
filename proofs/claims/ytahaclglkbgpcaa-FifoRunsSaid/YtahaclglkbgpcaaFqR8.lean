/- titheref04: Put, by contract. -/
import Derived.Test.YtahaclglkbgpcaaFqR7
set_option linter.unusedVariables false
set_option linter.unusedSimpArgs false
namespace Go.Proofs.Ytahaclglkbgpcaa
open Go.RowKit Go.Shelf
set_option maxRecDepth 100000

theorem rput_none (lim n c B : Nat) (a : Option Addr) (zs : List Int) (i v : Int) (w : World) (h : RL w B a n c zs) (hn : n ≤ 4096) (hi : ¬ (0 ≤ i ∧ i < n)) :
    Calls Try.prog 63 #[.agg #[.int .i64 (lim : Int), .slice a n c], .int .i64 i, .int .i64 v] w fun e w' => e = .returned (.tuple #[.agg #[.int .i64 (lim : Int), .slice a n c], .int .i64 50]) ∧ Below w.heap.size w w' := by
  have HX := Lib.hid (Box2.new w lim n c a)
  have A := rat_ok lim n c B a zs i _ (h.below HX.out.below) hn
  rw [show decide (0 ≤ i ∧ i < (n : Int)) = false by simpa using hi] at A
  generalize (if 0 ≤ i then zs[i.toNat]?.getD 0 else 0) = y at A
  have HA := Lib.hid A
  clear A h hi
  go_enter Try.func63, Try.ntmps63
  go_wp2_with fail
  refine HA.out.mono ?_
  rintro e w1 ⟨rfl, hb⟩
  have HX1 := Lib.hid (HX.out.later (hb.mono HX.out.size))
  clear hb HA
  have q0 := HX1.out.q0
  have q1 := HX1.out.q1
  have r0 := HX1.out.r0
  have r1 := HX1.out.r1
  have f0 := HX1.out.rf 0
  have f1 := HX1.out.rf 1
  go_wp2_with fail
  refine bodyPost_ret (v := .tuple #[.agg #[.int .i64 (lim : Int), .slice a n c], .int .i64 50]) ?_ rfl ⟨rfl, (HX1.out.below.setCell (p := ⟨w.heap.size + 1, 0, none⟩) (by simp) _).setCell (p := ⟨w.heap.size + 1, 1, none⟩) (by simp) _⟩
  simp [results, Try.results63, go_sem, r0, r1]

set_option maxHeartbeats 1000000 in
theorem rput_ok (lim n c B k : Nat) (a : Option Addr) (zs : List Int) (v : Int) (w : World) (h : RL w B a n c zs) (hn : n ≤ 4096) (hk : k < n) :
    Calls Try.prog 63 #[.agg #[.int .i64 (lim : Int), .slice a n c], .int .i64 (k : Int), .int .i64 v] w fun e w' => ∃ a' c', e = .returned (.tuple #[.agg #[.int .i64 (lim : Int), .slice a' n c'], .int .i64 0]) ∧ RL w' w.heap.size a' n c' (zs.set k v) ∧ Below w.heap.size w w' := by
  have HX := Lib.hid (Box2.new w lim n c a)
  have A := rat_ok lim n c B a zs k _ (h.below HX.out.below) hn
  rw [show decide (0 ≤ (k : Int) ∧ (k : Int) < (n : Int)) = true by simp; omega] at A
  generalize (if 0 ≤ (k : Int) then zs[(k : Int).toNat]?.getD 0 else 0) = y at A
  have HA := Lib.hid A
  obtain ⟨i0, hi, hz0, hz1, hz2⟩ := info_parts info_int
  have HR := Lib.hid h
  obtain ⟨g, c1, e1, hge, hgl⟩ := h.own.form (by omega)
  simp only [Value.slice.injEq, true_and] at e1
  obtain ⟨rfl, rfl⟩ := e1
  clear A h
  go_enter Try.func63, Try.ntmps63
  go_wp2_with fail
  refine HA.out.mono ?_
  rintro e w1 ⟨rfl, hb⟩
  have HX1 := Lib.hid (HX.out.later (hb.mono HX.out.size))
  have HCE := Lib.hid ((owns_below HR.out.own HX1.out.below).cells (g := g) rfl)
  clear hb HA
  have q0 := HX1.out.q0
  have q1 := HX1.out.q1
  have hs1 := HX1.out.size
  go_wp2_with (first
    | (at_builtin; refine wpList_append_lies _ rfl (.tmp 20) (.tmp 22) 32 rfl (w.heap.size + 2) 3 i0 (.int .i64 0) 1 8 Try.underlying32 hi hz0 hz1 hz2 rfl (by decide) (.slice none 0 0) 0 [] rfl (World.ownsRow_nil _ _ _ _) ⟨g, 0, none⟩ n c (zs.map (Value.int .i64)) rfl (by have := HR.out.len; simp; omega) HCE.out (ints_oneCell _ _) (by omega) (by unfold maxLen; omega) (by omega) hs1 _ rfl ?_)
    | fail)
  intro g' cap' w7 hown1 hgrow1 hat1 hlt1
  try simp only [Nat.zero_add, List.nil_append] at hown1
  try rw [Nat.zero_add]
  have HX7 := Lib.hid (HX1.out.later (below_of_own hs1 (World.ownsRow_nil w1 (w.heap.size + 2) 3 1) hgrow1))
  have hlk : k < (zs.map (Value.int .i64)).length := by have := HR.out.len; simp; omega
  have hx := hown1.cellAt k (by omega)
  rw [List.getElem?_eq_getElem hlk] at hx
  obtain ⟨u, hu⟩ : ∃ u, w7.cell? ⟨g', k, none⟩ = some u := ⟨_, hx⟩
  have hfz := hown1.frozenAt k
  obtain ⟨s1, s2⟩ := hown1.stored k (.int .i64 v)
  have hg2 : w.heap.size + 2 ≤ g' := (hown1.lt g' rfl).1
  have HS := Lib.hid s1
  have HX8 := Lib.hid (HX7.out.later ((Below.refl (w.heap.size + 2) w7).setCell (p := ⟨g', k, none⟩) hg2 (.int .i64 v)))
  clear hown1 hgrow1 hat1 hlt1 hx s1 s2 hlk
  have q8 := HX8.out.q0
  have r0 := HX8.out.r0
  have r1 := HX8.out.r1
  have f0 := HX8.out.rf 0
  have f1 := HX8.out.rf 1
  go_wp2_with fail
  have hown9 : (((w7.setCell ⟨g', k, none⟩ (.int .i64 v)).setCell ⟨w.heap.size + 1, 0, none⟩ (.int .i64 (lim : Int))).setCell ⟨w.heap.size + 1, 1, none⟩ (.slice (some ⟨g', 0, none⟩) n cap')).ownsRow w.heap.size 3 1 (.slice (some ⟨g', 0, none⟩) n cap') n ((zs.set k v).map (Value.int .i64)) := by
    have h1 := ownsRow_setCell_below (ownsRow_setCell_below HS.out (a := ⟨w.heap.size + 1, 0, none⟩) (by show w.heap.size + 1 < w.heap.size + 2; omega) (.int .i64 (lim : Int))) (a := ⟨w.heap.size + 1, 1, none⟩) (by show w.heap.size + 1 < w.heap.size + 2; omega) (.slice (some ⟨g', 0, none⟩) n cap')
    rw [List.map_set]
    exact owns_mono h1 (by omega)
  have hb9 := (HX8.out.below.setCell (p := ⟨w.heap.size + 1, 0, none⟩) (by simp) (.int .i64 (lim : Int))).setCell (p := ⟨w.heap.size + 1, 1, none⟩) (by simp) (.slice (some ⟨g', 0, none⟩) n cap')
  refine bodyPost_ret (v := .tuple #[.agg #[.int .i64 (lim : Int), .slice (some ⟨g', 0, none⟩) n cap'], .int .i64 0]) ?_ rfl ⟨_, _, rfl, ⟨hown9, by have := HR.out.len; simp; omega, fun h => absurd h (by omega)⟩, hb9⟩
  simp [results, Try.results63, go_sem, r0, r1]
end Go.Proofs.Ytahaclglkbgpcaa
