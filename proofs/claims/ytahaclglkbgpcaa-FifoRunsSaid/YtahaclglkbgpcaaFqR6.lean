/- titheref04: New, Push, At, by contract. -/
import Derived.Laws.AppendOwnNone
import Derived.Deep.DeepCutAuto
import Derived.Deep.RegionLaw
import Derived.Test.YtahaclglkbgpcaaFqNone
import Derived.Test.YtahaclglkbgpcaaFqR5
set_option linter.unusedVariables false
set_option linter.unusedSimpArgs false
namespace Go.Proofs.Ytahaclglkbgpcaa
open Go.RowKit Go.Shelf
set_option maxRecDepth 100000

/-- A list of the reference's. -/
structure RL (w : World) (B : Nat) (a : Option Addr) (n c : Nat) (zs : List Int) : Prop where
  own : w.ownsRow B 3 1 (.slice a n c) n (zs.map (Value.int .i64))
  len : n = zs.length
  nil : n = 0 → a = none ∧ c = 0

theorem RL.below {w w' : World} {B : Nat} {a : Option Addr} {n c : Nat} {zs : List Int} (h : RL w B a n c zs) (hb : Below w.heap.size w w') : RL w' B a n c zs := ⟨owns_below h.own hb, h.len, h.nil⟩

theorem rpush_full (lim n c : Nat) (a : Option Addr) (v : Int) (w : World) (h : lim ≤ n) (hn : n ≤ 4096) :
    Calls Try.prog 61 #[.agg #[.int .i64 (lim : Int), .slice a n c], .int .i64 v] w fun e w' => e = .returned (.tuple #[.agg #[.int .i64 (lim : Int), .slice a n c], .int .i64 40]) ∧ Below w.heap.size w w' := by
  have t0 : decide ((lim : Int) ≤ (n : Int)) = true := by simp; omega
  go_enter Try.func61, Try.ntmps61
  go_wp2_with fail
  refine bodyPost_ret (v := .tuple #[.agg #[.int .i64 (lim : Int), .slice a n c], .int .i64 40]) ?_ rfl ⟨rfl, ((Below.refl _ w).alloc (Nat.le_refl _) _).alloc (by simp) _⟩
  simp [results, Try.results61, go_sem]

/-- Two boxes of a queue of the reference's. -/
structure Box2 (w : World) (lim n c : Nat) (a : Option Addr) (W : World) : Prop where
  below : Below w.heap.size w W
  q : W.heap[w.heap.size]? = some (.cells #[.int .i64 (lim : Int), .slice a n c] 56 (0, 0))
  r : W.heap[w.heap.size + 1]? = some (.cells #[.int .i64 0, .slice none 0 0] 56 (0, 0))
  size : w.heap.size + 2 ≤ W.heap.size

theorem Box2.new (w : World) (lim n c : Nat) (a : Option Addr) : Box2 w lim n c a ((w.alloc (.cells #[.int .i64 (lim : Int), .slice a n c] 56)).alloc (.cells #[.int .i64 0, .slice none 0 0] 56)) := by
  refine ⟨((Below.refl _ w).alloc (Nat.le_refl _) _).alloc (by simp) _, blk_below ((Below.refl _ _).alloc (Nat.le_refl _) _) (World.alloc_heap_new w _), ?_, by simp⟩
  have h := World.alloc_heap_new (w.alloc (.cells #[.int .i64 (lim : Int), .slice a n c] 56)) (.cells #[.int .i64 0, .slice none 0 0] 56)
  rw [World.size_alloc] at h
  exact h

section
variable {w W W' : World} {lim n c : Nat} {a : Option Addr}
theorem Box2.later (h : Box2 w lim n c a W) (hb : Below (w.heap.size + 2) W W') : Box2 w lim n c a W' :=
  ⟨⟨hb.os.trans h.below.os, hb.tape.trans h.below.tape, hb.output.trans h.below.output, Nat.le_trans h.below.size hb.size, fun k hk => (hb.block k (by omega)).trans (h.below.block k hk)⟩,
   (hb.block _ (by omega)).trans h.q, (hb.block _ (by omega)).trans h.r, Nat.le_trans h.size hb.size⟩
theorem Box2.q0 (h : Box2 w lim n c a W) : W.cell? ⟨w.heap.size, 0, none⟩ = some (.int .i64 (lim : Int)) := by simp [World.cell?, h.q]
theorem Box2.q1 (h : Box2 w lim n c a W) : W.cell? ⟨w.heap.size, 1, none⟩ = some (.slice a n c) := by simp [World.cell?, h.q]
theorem Box2.r0 (h : Box2 w lim n c a W) : W.cell? ⟨w.heap.size + 1, 0, none⟩ = some (.int .i64 0) := by simp [World.cell?, h.r]
theorem Box2.r1 (h : Box2 w lim n c a W) : W.cell? ⟨w.heap.size + 1, 1, none⟩ = some (.slice none 0 0) := by simp [World.cell?, h.r]
theorem Box2.rf (h : Box2 w lim n c a W) (o : Nat) : W.frozen? ⟨w.heap.size + 1, o, none⟩ = false := by simp [World.frozen?, h.r]
end

theorem below_of_own {W W' : World} {B : Nat} {e : TypeId} {s n : Nat} {v : Value} {xs : List Value} (hB : B ≤ W.heap.size) (h : W.ownsRow B e s v n xs) (hg : W.grownBy W' v.ownBlock) : Below B W W' := below_grown hB (Below.refl _ _) h hg

set_option maxHeartbeats 1000000 in
theorem rpush_ok (lim n c B : Nat) (a : Option Addr) (zs : List Int) (v : Int) (w : World) (h : RL w B a n c zs) (hl : n < lim) (hn : n ≤ 4096) :
    Calls Try.prog 61 #[.agg #[.int .i64 (lim : Int), .slice a n c], .int .i64 v] w fun e w' => ∃ a' c', e = .returned (.tuple #[.agg #[.int .i64 (lim : Int), .slice a' (n + 1) c'], .int .i64 0]) ∧ RL w' w.heap.size a' (n + 1) c' (zs ++ [v]) ∧ Below w.heap.size w w' := by
  have t0 : decide ((lim : Int) ≤ (n : Int)) = false := by simp; omega
  obtain ⟨i0, hi, hz0, hz1, hz2⟩ := info_parts info_int
  have HR := Lib.hid h
  clear h
  go_enter Try.func61, Try.ntmps61
  go_upto_region 4 with (fail)
  have HX := Lib.hid (Box2.new w lim n c a)
  obtain ⟨W0, hW0⟩ : ∃ x, x = ((w.alloc (.cells #[.int .i64 (lim : Int), .slice a n c] 56)).alloc (.cells #[.int .i64 0, .slice none 0 0] 56)) := ⟨_, rfl⟩
  rw [← hW0] at HX ⊢
  clear hW0
  have q1 := HX.out.q1
  have hs0 := HX.out.size
  go_cut [6] from 7 to 24 (fun l wx => ∃ a1 c1, l = .slice a1 n c1 ∧ Hid (wx.ownsRow (w.heap.size + 2) 3 1 (.slice a1 n c1) n (zs.map (Value.int .i64))) ∧ Hid (Below (w.heap.size + 2) W0 wx))
  case first =>
    by_cases h0 : n = 0
    · obtain ⟨rfl, rfl⟩ := HR.out.nil h0
      have hz : zs = [] := List.length_eq_zero_iff.1 (by have := HR.out.len; omega)
      subst hz
      subst h0
      go_wp2_with (first
        | (at_builtin; refine wpList_append_own_none _ (.tmp 14) (.tmp 16) 32 rfl (w.heap.size + 2) 3 i0 1 Try.underlying32 hi (.slice none 0 0) 0 [] rfl (World.ownsRow_nil _ _ _ _) rfl ?_)
        | fail)
      go_meet
      case rel => exact ⟨none, 0, rfl, Lib.hid (World.ownsRow_nil _ _ _ _), Lib.hid (Below.refl _ _)⟩
    · obtain ⟨g, c1, e1, hge, hgl⟩ := HR.out.own.form (by omega)
      simp only [Value.slice.injEq, true_and] at e1
      obtain ⟨rfl, rfl⟩ := e1
      have HCE := Lib.hid ((owns_below HR.out.own HX.out.below).cells (g := g) rfl)
      go_wp2_with (first
        | (at_builtin; refine wpList_append_lies _ rfl (.tmp 14) (.tmp 16) 32 rfl (w.heap.size + 2) 3 i0 (.int .i64 0) 1 8 Try.underlying32 hi hz0 hz1 hz2 rfl (by decide) (.slice none 0 0) 0 [] rfl (World.ownsRow_nil _ _ _ _) ⟨g, 0, none⟩ n c (zs.map (Value.int .i64)) rfl (by have := HR.out.len; simp; omega) HCE.out (ints_oneCell _ _) (by omega) (by unfold maxLen; omega) (by omega) hs0 _ rfl ?_)
        | fail)
      intro g' cap' w7 hown1 hgrow1 hat1 hlt1
      try simp only [Nat.zero_add, List.nil_append] at hown1
      try rw [Nat.zero_add]
      have R1 := Lib.hid hown1
      have R2 := Lib.hid (below_of_own hs0 (World.ownsRow_nil W0 (w.heap.size + 2) 3 1) hgrow1)
      clear hown1 hgrow1 hat1 hlt1
      go_wp2
      go_meet
      case rel => exact ⟨_, _, rfl, R1, R2⟩
  case rest =>
    obtain ⟨a1, c1, rfl, HO, HB⟩ := hcut
    have HX1 := Lib.hid (HX.out.later HB.out)
    clear q1 hs0
    have q0 := HX1.out.q0
    have hs1 := HX1.out.size
    have q0a : (wc.alloc (.cells #[.int .i64 v] 3)).cell? ⟨w.heap.size, 0, none⟩ = some (.int .i64 (lim : Int)) := keep ((Below.refl _ wc).alloc (Nat.le_refl _) _) q0
    go_wp2_with fail
    go_region_law (refine step_append_lies _ rfl (.tmp 20) (.tmp 22) 32 rfl (w.heap.size + 2) 3 i0 (.int .i64 0) 1 8 Try.underlying32 hi hz0 hz1 hz2 rfl (by decide) _ n (zs.map (Value.int .i64)) rfl (HO.out.alloc _) ⟨wc.heap.size, 0, none⟩ 1 1 [.int .i64 v] rfl rfl (cell_one_new _ _ _) (fun u hu => by simp at hu; subst hu; rfl) (by omega) (by unfold maxLen; omega) (by omega) (by simp; omega) _ rfl ?_; intro g' cap' w7 hown1 hgrow1 hat1 hlt1; have B7 : Below (w.heap.size + 2) wc w7 := (by first | exact below_grown hs1 ((Below.refl _ wc).alloc hs1 _) HO.out hgrow1 | exact below_grown hs1 ((Below.drew (Below.refl _ wc)).alloc hs1 _) HO.out hgrow1 | exact below_grown hs1 (Below.drew ((Below.refl _ wc).alloc hs1 _)) HO.out hgrow1); have HX7 := Lib.hid (HX1.out.later B7); have q07 := HX7.out.q0; have r07 := HX7.out.r0; have r17 := HX7.out.r1; have f07 := HX7.out.rf 0; have f17 := HX7.out.rf 1)
    all_goals
      have HR7 := Lib.hid hown1
      have HG7 := Lib.hid (show w.heap.size + 2 ≤ g' from (hown1.lt g' rfl).1)
      clear hown1 hgrow1 hat1 hlt1 B7
      go_wp2_with fail
      have hown9 : ((w7.setCell ⟨w.heap.size + 1, 0, none⟩ (.int .i64 (lim : Int))).setCell ⟨w.heap.size + 1, 1, none⟩ (.slice (some ⟨g', 0, none⟩) (n + 1) cap')).ownsRow w.heap.size 3 1 (.slice (some ⟨g', 0, none⟩) (n + 1) cap') (n + 1) ((zs ++ [v]).map (Value.int .i64)) := by
        have h1 := ownsRow_setCell_below (ownsRow_setCell_below HR7.out (a := ⟨w.heap.size + 1, 0, none⟩) (by show w.heap.size + 1 < w.heap.size + 2; omega) (.int .i64 (lim : Int))) (a := ⟨w.heap.size + 1, 1, none⟩) (by show w.heap.size + 1 < w.heap.size + 2; omega) (.slice (some ⟨g', 0, none⟩) (n + 1) cap')
        rw [List.map_append]
        exact owns_mono h1 (by omega)
      have hb9 := (HX7.out.below.setCell (p := ⟨w.heap.size + 1, 0, none⟩) (by simp) (.int .i64 (lim : Int))).setCell (p := ⟨w.heap.size + 1, 1, none⟩) (by simp) (.slice (some ⟨g', 0, none⟩) (n + 1) cap')
      refine bodyPost_ret (v := .tuple #[.agg #[.int .i64 (lim : Int), .slice (some ⟨g', 0, none⟩) (n + 1) cap'], .int .i64 0]) ?_ rfl ⟨_, _, rfl, ⟨hown9, by have := HR.out.len; simp; omega, fun h => absurd h (by omega)⟩, hb9⟩
      simp [results, Try.results61, go_sem, r07, r17]
end Go.Proofs.Ytahaclglkbgpcaa
