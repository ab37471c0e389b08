/- titheref04: Drop, by contract. -/
import Derived.Test.YtahaclglkbgpcaaFqR8
set_option linter.unusedVariables false
set_option linter.unusedSimpArgs false
namespace Go.Proofs.Ytahaclglkbgpcaa
open Go.RowKit Go.Shelf
set_option maxRecDepth 100000

theorem owns_shape {w : World} {B n : Nat} {e : TypeId} {s : Nat} {v : Value} {xs : List Value} (h : w.ownsRow B e s v n xs) : ∃ a c, v = .slice a n c := by
  rcases h.2 with ⟨rfl, e⟩ | ⟨g, c, cur, rfl, _⟩
  · exact ⟨none, 0, by rw [e]⟩
  · exact ⟨_, _, rfl⟩
theorem owns_cap {w : World} {B n c : Nat} {e : TypeId} {s : Nat} {a : Option Addr} {xs : List Value} (h : w.ownsRow B e s (.slice a n c) n xs) : n ≤ c := by
  rcases h.2 with ⟨e1, e⟩ | ⟨g, c', cur, e1, _, _, h1, _⟩
  · omega
  · simp at e1; omega

theorem rdrop_none (lim n c B : Nat) (a : Option Addr) (zs : List Int) (i : Int) (w : World) (h : RL w B a n c zs) (hn : n ≤ 4096) (hi : ¬ (0 ≤ i ∧ i < n)) :
    Calls Try.prog 62 #[.agg #[.int .i64 (lim : Int), .slice a n c], .int .i64 i] w fun e w' => e = .returned (.tuple #[.agg #[.int .i64 (lim : Int), .slice a n c], .int .i64 0, .int .i64 50]) ∧ Below w.heap.size w w' := by
  have HX := Lib.hid (Box2.new w lim n c a)
  have A := rat_ok lim n c B a zs i _ (h.below HX.out.below) hn
  rw [show decide (0 ≤ i ∧ i < (n : Int)) = false by simpa using hi] at A
  generalize (if 0 ≤ i then zs[i.toNat]?.getD 0 else 0) = y at A
  have HA := Lib.hid A
  clear A h hi
  go_enter Try.func62, Try.ntmps62
  go_wp2_with fail
  refine HA.out.mono ?_
  rintro e w1 ⟨rfl, hb⟩
  have HX1 := Lib.hid (HX.out.later (hb.mono HX.out.size))
  clear hb HA
  have q0 := HX1.out.q0
  have q1 := HX1.out.q1
  have r0 := HX1.out.r0
  have r1 := HX1.out.r1
  have f0 := HX1.out.rf 0
  have f1 := HX1.out.rf 1
  go_wp2_with fail
  refine bodyPost_ret (v := .tuple #[.agg #[.int .i64 (lim : Int), .slice a n c], .int .i64 0, .int .i64 50]) ?_ rfl ⟨rfl, (HX1.out.below.setCell (p := ⟨w.heap.size + 1, 0, none⟩) (by simp) _).setCell (p := ⟨w.heap.size + 1, 1, none⟩) (by simp) _⟩
  simp [results, Try.results62, go_sem, r0, r1]

set_option maxHeartbeats 1000000 in
theorem rdrop_ok (lim n c B k : Nat) (a : Option Addr) (zs : List Int) (w : World) (h : RL w B a n c zs) (hn : n ≤ 4096) (hk : k < n) :
    Calls Try.prog 62 #[.agg #[.int .i64 (lim : Int), .slice a n c], .int .i64 (k : Int)] w fun e w' => ∃ a' c', e = .returned (.tuple #[.agg #[.int .i64 (lim : Int), .slice a' (n - 1) c'], .int .i64 (zs.getD k 0), .int .i64 0]) ∧ RL w' w.heap.size a' (n - 1) c' (zs.eraseIdx k) ∧ Below w.heap.size w w' := by
  have HX := Lib.hid (Box2.new w lim n c a)
  have A := rat_ok lim n c B a zs k _ (h.below HX.out.below) hn
  rw [show decide (0 ≤ (k : Int) ∧ (k : Int) < (n : Int)) = true by simp; omega, show (if 0 ≤ (k : Int) then zs[(k : Int).toNat]?.getD 0 else 0) = zs.getD k 0 by rw [if_pos (by omega)]; simp [List.getD]] at A
  obtain ⟨x, hxe⟩ : ∃ x, x = zs.getD k 0 := ⟨_, rfl⟩
  rw [← hxe] at A ⊢
  have HA := Lib.hid A
  obtain ⟨i0, hi, hz0, hz1, hz2⟩ := info_parts info_int
  have HR := Lib.hid h
  have hcap := owns_cap h.own
  obtain ⟨g, c1, e1, hge, hgl⟩ := h.own.form (by omega)
  simp only [Value.slice.injEq, true_and] at e1
  obtain ⟨rfl, rfl⟩ := e1
  clear A h hxe
  go_enter Try.func62, Try.ntmps62
  go_wp2_with fail
  refine HA.out.mono ?_
  rintro e w1 ⟨rfl, hb⟩
  have HX1 := Lib.hid (HX.out.later (hb.mono HX.out.size))
  have HCE := Lib.hid ((owns_below HR.out.own HX1.out.below).cells (g := g) rfl)
  clear hb HA
  have q0 := HX1.out.q0
  have q1 := HX1.out.q1
  have hs1 := HX1.out.size
  have hlz : n = zs.length := HR.out.len
  have HLZ := Lib.hid hlz
  have N1 : ∀ (j : Nat) (u : Value), ((zs.take k).map (Value.int .i64))[j]? = some u → w1.cell? (Addr.add ⟨g, 0, none⟩ j) = some u := by
    intro j u hj
    refine HCE.out j u ?_
    have hjk : j < k := by have := (List.getElem?_eq_some_iff.1 hj).1; simp at this; omega
    rw [List.getElem?_map, List.getElem?_take, if_pos hjk] at hj
    rw [List.getElem?_map]
    exact hj
  have hl1 : ((zs.take k).map (Value.int .i64)).length = k * 1 := by simp; omega
  have HN1 := Lib.hid N1
  have HL1 := Lib.hid hl1
  clear N1 hl1 hlz
  go_wp2_with (first
    | (at_builtin; refine wpList_append_own _ rfl (.tmp 19) (.tmp 23) 32 rfl (w.heap.size + 2) 3 i0 (.int .i64 0) 1 8 Try.underlying32 hi hz0 hz1 hz2 rfl (by decide) (.slice none 0 0) 0 [] rfl (World.ownsRow_nil _ _ _ _) ⟨g, 0, none⟩ k c ((zs.take k).map (Value.int .i64)) rfl HL1.out HN1.out (ints_oneCell _ _) (by unfold maxLen; omega) (by omega) hs1 ?_)
    | fail)
  intro v1 w2 hown1 hgrow1 hnil1
  have HX2 := Lib.hid (HX1.out.later (below_of_own hs1 (World.ownsRow_nil w1 (w.heap.size + 2) 3 1) hgrow1))
  have HCE2 := Lib.hid ((owns_below HR.out.own HX2.out.below).cells (g := g) rfl)
  have HO1 : Hid (w2.ownsRow (w.heap.size + 2) 3 1 v1 k ((zs.take k).map (Value.int .i64))) := Lib.hid (by rw [List.map_take]; exact hown1)
  have HV1 := Lib.hid hnil1
  clear hown1 hgrow1 hnil1 hs1 q0 q1
  have q0 := HX2.out.q0
  have q1 := HX2.out.q1
  have hs2 := HX2.out.size
  have hwr : IntKind.i64.wrap ((k : Int) + 1) = (k : Int) + 1 := by simp [IntKind.wrap, IntKind.bits, IntKind.signed]; omega
  obtain ⟨m, rfl⟩ : ∃ m, n = k + 1 + m := ⟨n - (k + 1), by omega⟩
  have hl2 : ((zs.drop (k + 1)).map (Value.int .i64)).length = m * 1 := by simp; have := HLZ.out; omega
  have HL2 := Lib.hid hl2
  clear hl2
  by_cases hce : c = k + 1
  · obtain rfl : m = 0 := by omega
    subst hce
    have N2 : ∀ (j : Nat) (u : Value), ((zs.drop (k + 1)).map (Value.int .i64))[j]? = some u → w2.cell? (Addr.add ⟨g, 0, none⟩ j) = some u := by
      intro j u hj
      have h1 := (List.getElem?_eq_some_iff.1 hj).1
      have h2 := HL2.out
      rw [h2] at h1
      omega
    have HN2 := Lib.hid N2
    clear N2
    go_wp2_with (first
      | (at_builtin; refine wpList_append_own _ rfl (.tmp 25) (.tmp 30) 32 rfl (w.heap.size + 2) 3 i0 (.int .i64 0) 1 8 Try.underlying32 hi hz0 hz1 hz2 rfl (by decide) v1 k ((zs.take k).map (Value.int .i64)) rfl HO1.out ⟨g, 0, none⟩ 0 _ ((zs.drop (k + 1)).map (Value.int .i64)) rfl HL2.out HN2.out (ints_oneCell _ _) (by unfold maxLen; omega) (by omega) hs2 ?_)
      | fail)
    intro v2 w3 hown2 hgrow2 hnil2
    have HX3 := Lib.hid (HX2.out.later (below_of_own hs2 HO1.out hgrow2))
    have HO2 := Lib.hid hown2
    have HV2 := Lib.hid hnil2
    clear hown2 hgrow2 hnil2 q0 q1 hs2
    obtain ⟨a2, c2, rfl⟩ := owns_shape HO2.out
    have q3 := HX3.out.q0
    have r0 := HX3.out.r0
    have r1 := HX3.out.r1
    have f0 := HX3.out.rf 0
    have f1 := HX3.out.rf 1
    go_wp2_with fail
    have e9 : zs.eraseIdx k = zs.take k ++ zs.drop (k + 1) := List.eraseIdx_eq_take_drop_succ ..
    have hownE : w3.ownsRow (w.heap.size + 2) 3 1 (.slice a2 (k) c2) (k) ((zs.eraseIdx k).map (Value.int .i64)) := by
      rw [e9, List.map_append]
      simpa using HO2.out
    have hown9 : ((w3.setCell ⟨w.heap.size + 1, 0, none⟩ (.int .i64 (lim : Int))).setCell ⟨w.heap.size + 1, 1, none⟩ (.slice a2 (k) c2)).ownsRow w.heap.size 3 1 (.slice a2 (k) c2) (k) ((zs.eraseIdx k).map (Value.int .i64)) := by
      have h1 := ownsRow_setCell_below (ownsRow_setCell_below hownE (a := ⟨w.heap.size + 1, 0, none⟩) (by show w.heap.size + 1 < w.heap.size + 2; omega) (.int .i64 (lim : Int))) (a := ⟨w.heap.size + 1, 1, none⟩) (by show w.heap.size + 1 < w.heap.size + 2; omega) (.slice a2 (k) c2)
      exact owns_mono h1 (by omega)
    have hb9 := (HX3.out.below.setCell (p := ⟨w.heap.size + 1, 0, none⟩) (by simp) (.int .i64 (lim : Int))).setCell (p := ⟨w.heap.size + 1, 1, none⟩) (by simp) (.slice a2 (k) c2)
    have hnil : k = 0 → a2 = none ∧ c2 = 0 := by
      intro h0
      have hv1 : v1 = .slice none 0 0 := HV1.out.2 (by omega)
      have hv2 := HV2.out.2 hv1
      simp at hv2
      exact ⟨hv2.1, hv2.2.2⟩
    have hlen9 : k = (zs.eraseIdx k).length := by rw [e9]; simp; have := HLZ.out; omega
    have eL : k + 1 + 0 - 1 = k := by omega
    rw [eL]
    refine bodyPost_ret (v := .tuple #[.agg #[.int .i64 (lim : Int), .slice a2 (k) c2], .int .i64 x, .int .i64 0]) ?_ rfl ⟨_, _, rfl, ⟨hown9, hlen9, hnil⟩, hb9⟩
    simp [results, Try.results62, go_sem, r0, r1]
  · have hcc : k + 1 < c := by omega
    have N2 : ∀ (j : Nat) (u : Value), ((zs.drop (k + 1)).map (Value.int .i64))[j]? = some u → w2.cell? (Addr.add ⟨g, k + 1, none⟩ j) = some u := by
      intro j u hj
      have := HCE2.out (k + 1 + j) u (by rw [List.getElem?_map, List.getElem?_drop] at hj; rw [List.getElem?_map]; exact hj)
      have e : (⟨g, 0, none⟩ : Addr).add (k + 1 + j) = (⟨g, k + 1, none⟩ : Addr).add j := by simp [Addr.add]
      rw [← e]
      exact this
    have HN2 := Lib.hid N2
    clear N2
    go_wp2_with (first
      | (at_builtin; refine wpList_append_own _ rfl (.tmp 25) (.tmp 30) 32 rfl (w.heap.size + 2) 3 i0 (.int .i64 0) 1 8 Try.underlying32 hi hz0 hz1 hz2 rfl (by decide) v1 k ((zs.take k).map (Value.int .i64)) rfl HO1.out ⟨g, k + 1, none⟩ m _ ((zs.drop (k + 1)).map (Value.int .i64)) rfl HL2.out HN2.out (ints_oneCell _ _) (by unfold maxLen; omega) (by omega) hs2 ?_)
      | fail)
    intro v2 w3 hown2 hgrow2 hnil2
    have HX3 := Lib.hid (HX2.out.later (below_of_own hs2 HO1.out hgrow2))
    have HO2 := Lib.hid hown2
    have HV2 := Lib.hid hnil2
    clear hown2 hgrow2 hnil2 q0 q1 hs2
    obtain ⟨a2, c2, rfl⟩ := owns_shape HO2.out
    have q3 := HX3.out.q0
    have r0 := HX3.out.r0
    have r1 := HX3.out.r1
    have f0 := HX3.out.rf 0
    have f1 := HX3.out.rf 1
    go_wp2_with fail
    have e9 : zs.eraseIdx k = zs.take k ++ zs.drop (k + 1) := List.eraseIdx_eq_take_drop_succ ..
    have hownE : w3.ownsRow (w.heap.size + 2) 3 1 (.slice a2 (k + m) c2) (k + m) ((zs.eraseIdx k).map (Value.int .i64)) := by
      rw [e9, List.map_append]
      simpa using HO2.out
    have hown9 : ((w3.setCell ⟨w.heap.size + 1, 0, none⟩ (.int .i64 (lim : Int))).setCell ⟨w.heap.size + 1, 1, none⟩ (.slice a2 (k + m) c2)).ownsRow w.heap.size 3 1 (.slice a2 (k + m) c2) (k + m) ((zs.eraseIdx k).map (Value.int .i64)) := by
      have h1 := ownsRow_setCell_below (ownsRow_setCell_below hownE (a := ⟨w.heap.size + 1, 0, none⟩) (by show w.heap.size + 1 < w.heap.size + 2; omega) (.int .i64 (lim : Int))) (a := ⟨w.heap.size + 1, 1, none⟩) (by show w.heap.size + 1 < w.heap.size + 2; omega) (.slice a2 (k + m) c2)
      exact owns_mono h1 (by omega)
    have hb9 := (HX3.out.below.setCell (p := ⟨w.heap.size + 1, 0, none⟩) (by simp) (.int .i64 (lim : Int))).setCell (p := ⟨w.heap.size + 1, 1, none⟩) (by simp) (.slice a2 (k + m) c2)
    have hnil : k + m = 0 → a2 = none ∧ c2 = 0 := by
      intro h0
      have hv1 : v1 = .slice none 0 0 := HV1.out.2 (by omega)
      have hv2 := HV2.out.2 ⟨hv1, by omega⟩
      simp at hv2
      exact ⟨hv2.1, hv2.2.2⟩
    have hlen9 : k + m = (zs.eraseIdx k).length := by rw [e9]; simp; have := HLZ.out; omega
    have eL : k + 1 + m - 1 = k + m := by omega
    rw [eL]
    refine bodyPost_ret (v := .tuple #[.agg #[.int .i64 (lim : Int), .slice a2 (k + m) c2], .int .i64 x, .int .i64 0]) ?_ rfl ⟨_, _, rfl, ⟨hown9, hlen9, hnil⟩, hb9⟩
    simp [results, Try.results62, go_sem, r0, r1]
end Go.Proofs.Ytahaclglkbgpcaa
