/- tithelaw04.alike: its loop. -/
import Derived.Test.YtahaclglkbgpcaaFqRf
set_option linter.unusedVariables false
set_option linter.unusedSimpArgs false
namespace Go.Proofs.Ytahaclglkbgpcaa
open Go.RowKit Go.Shelf
set_option maxRecDepth 100000
attribute [local go_sem] Oper.semAt_some

noncomputable def rangeA : Code := ((Try.f30.body.bind findRange).getD .skip)

/-- The loop's invariant. -/
structure AI (w : World) (q lim n c : Nat) (a : Option Addr) (ib Bs : Nat) (pre : List (Nat × Int)) (W : World) : Prop where
  ab : AB w q lim n c a W
  i : W.heap[ib]? = some (.cells #[.int .i64 (pre.length : Int)] 3 (0, 0))
  box : W.heap[Bs]? = some (.cells #[.pointer (some ⟨q, 0, none⟩)] 23 (0, 0))

theorem AI.own (w : World) (q lim n c : Nat) (a : Option Addr) (ib Bs B : Nat) (hB : w.heap.size ≤ B) : OwnFrom B (AI w q lim n c a ib Bs) := by
  intro pre A C row hs hg hr
  have hr' : ∀ r, row = some r → ∃ o : Obj, A.heap[r]? = some o ∧ o.isCells = false := fun r e => (hr r e).2
  exact ⟨⟨ownFrom_below (β := Unit) (Nat.le_refl _) hB () A C row hs.ab.below hg hr, blk_kept hs.ab.m hg hr', blk_kept hs.ab.r hg hr', blk_kept hs.ab.nb hg hr'⟩, blk_kept hs.i hg hr', blk_kept hs.box hg hr'⟩

theorem AI.next {w : World} {q lim n c : Nat} {a : Option Addr} {ib Bs : Nat} {pre : List (Nat × Int)} {W : World} (h : AI w q lim n c a ib Bs pre W) (hi : w.heap.size + 3 ≤ ib) (hne : ib ≠ Bs) (z : Nat × Int) : AI w q lim n c a ib Bs (pre ++ [z]) (W.setCell ⟨ib, 0, none⟩ (.int .i64 ((pre.length : Int) + 1))) := by
  have C : Chg (fun k => k = ib) W (W.setCell ⟨ib, 0, none⟩ (.int .i64 ((pre.length : Int) + 1))) := (Chg.refl _ W).setCell ⟨ib, 0, none⟩ _ rfl
  have ne : ∀ k, k < w.heap.size + 3 → ¬ (fun k => k = ib) k := fun k hk e => by have : k = ib := e; omega
  refine ⟨⟨h.ab.below.setCell (p := ⟨ib, 0, none⟩) (by simp; omega) _, C.heap h.ab.m (ne _ (by omega)), C.heap h.ab.r (ne _ (by omega)), C.heap h.ab.nb (ne _ (by omega))⟩, ?_, C.heap h.box (fun e => hne e.symm)⟩
  rw [heap_setCell_same W ib 0 _ 3 (.int .i64 ((pre.length : Int) + 1)) h.i]
  simp

set_option maxHeartbeats 4000000 in
theorem alike_range {x0 x1 x2 x6 x7 x8 x9 x11 x12 x13 x14 x15 x16 x17 x18 x19 x20 x21 x22 x23 x24 x25 x26 x27 x28 x29 x30 x31 x32 x33 x34 x35 x36 x37 x38 x39 x40 x41 x42 x43 x44 x45 x46 x47 x48 x49 x50 x51 x52 x53 x54 x55 x56 x57 x58 x59 x60 x61 x62 x64 x65 x66 x67 x68 x69 x70 x71 x72 x73 x74 x75 x76 x77 x78 x79 x80 x81 x82 x83 x84 x85 x86 x87 : Value} {w : World} {q lim n c ib Bs : Nat} {a : Option Addr} {zs : List Int} {S : Nat → Prop} {W : World} {Q : Exit → Act → World → Prop} (hn : n ≤ 4096) (hQ : Qu IsI 84 3 w q lim (zs.map (Value.int .i64)) S) (hR : RL w 0 a n c zs) (hi : w.heap.size + 3 ≤ ib) (hne : ib ≠ Bs) (h0 : AI w q lim n c a ib Bs [] W)
    (hK : Hid (∀ (D : Nat) (W' : World), W.heap.size ≤ D → (∃ xs : List (Nat × Int), xs.length = n ∧ AI w q lim n c a ib Bs xs W') → W'.heap[D]? = some (.deferred (some [])) → Q .normal { tmps := #[x0, x1, x2, .pointer (some ⟨w.heap.size, 0, none⟩), .pointer (some ⟨w.heap.size + 1, 0, none⟩), .pointer (some ⟨w.heap.size + 2, 0, none⟩), x6, x7, x8, x9, .pointer (some ⟨ib, 0, none⟩), x11, x12, x13, x14, x15, x16, x17, x18, x19, x20, x21, x22, x23, x24, x25, x26, x27, x28, x29, x30, x31, x32, x33, x34, x35, x36, x37, x38, x39, x40, x41, x42, x43, x44, x45, x46, x47, x48, x49, x50, x51, x52, x53, x54, x55, x56, x57, x58, x59, x60, x61, x62, .func (.func 53) #[] #[.pointer (some ⟨Bs, 0, none⟩)], x64, x65, x66, x67, x68, x69, x70, x71, x72, x73, x74, x75, x76, x77, x78, x79, x80, x81, x82, x83, x84, x85, x86, x87], defers := [{ target := .collected D, args := #[] }] } W')) :
    rangeA.wpIn Fence.wide 6 Try.prog Q ⟨#[x0, x1, x2, .pointer (some ⟨w.heap.size, 0, none⟩), .pointer (some ⟨w.heap.size + 1, 0, none⟩), .pointer (some ⟨w.heap.size + 2, 0, none⟩), x6, x7, x8, x9, .pointer (some ⟨ib, 0, none⟩), x11, x12, x13, x14, x15, x16, x17, x18, x19, x20, x21, x22, x23, x24, x25, x26, x27, x28, x29, x30, x31, x32, x33, x34, x35, x36, x37, x38, x39, x40, x41, x42, x43, x44, x45, x46, x47, x48, x49, x50, x51, x52, x53, x54, x55, x56, x57, x58, x59, x60, x61, x62, .func (.func 53) #[] #[.pointer (some ⟨Bs, 0, none⟩)], x64, x65, x66, x67, x68, x69, x70, x71, x72, x73, x74, x75, x76, x77, x78, x79, x80, x81, x82, x83, x84, x85, x86, x87], []⟩ W := by
  conv => arg 1; whnf
  have hBw : w.heap.size ≤ W.heap.size := h0.ab.below.size
  have hlz := hR.len
  refine range_T (by omega) (gf := 53) (lb := #[.pointer (some ⟨Bs, 0, none⟩)]) rfl (enters_of Try.func53 (by kernel_rfl) rfl)
    (all1_V (6 - 1) (by omega) Bs q lim zs (by omega) W) (fun _ => rfl)
    (AI w q lim n c a ib Bs) (AI.own _ _ _ _ _ _ _ _ _ hBw) (fun pre W1 h => ⟨by simp [World.cell?, h.box], S, hQ.below h.ab.below, fun _ _ f => f⟩) h0 ?a1 ?assign ?body ?done
  case assign =>
    intro l y W1 K1 hK1
    gi_wp2
    exact hK1
  case body =>
    rintro l pre y W1 hJ ⟨rfl, hlt⟩
    obtain ⟨k, hk⟩ : ∃ k, k = pre.length := ⟨_, rfl⟩
    have HN := Lib.hid (hJ.next hi hne (pre.length, zs[pre.length]?.getD 0))
    rw [← hk] at HN hlt ⊢
    obtain ⟨g, c1, e1, hge, hgl⟩ := hR.own.form (by omega)
    simp only [Value.slice.injEq, true_and] at e1
    obtain ⟨rfl, rfl⟩ := e1
    obtain ⟨x, hx⟩ : ∃ x, x = zs[k]?.getD 0 := ⟨_, rfl⟩
    have hcell : W1.cell? ⟨g, k, none⟩ = some (.int .i64 x) := by
      rw [(owns_below hR.own hJ.ab.below).cellAt k (by omega), hx]
      simp [hlt]
    rw [← hx]
    rw [← hx] at HN
    have m1 := hJ.ab.m1
    have n0 := hJ.ab.n0
    have ic : W1.cell? ⟨ib, 0, none⟩ = some (.int .i64 (k : Int)) := by rw [hk]; simp [World.cell?, hJ.i]
    have ifz : W1.frozen? ⟨ib, 0, none⟩ = false := by simp [World.frozen?, hJ.i]
    have tge : decide ((n : Int) ≤ (k : Int)) = false := by simp; omega
    have hkn : k < n := by omega
    clear hJ hx hk hlt hlz hR hQ
    gi_wp2_with fail
    exact ⟨(KeepsOthers.setCell _ _ _).from _, HN.out⟩
  case done =>
    intro D ys W1 hD hS hJ hD1
    exact hK.out D W1 hD ⟨ys, by rw [hlz]; exact hS, hJ⟩ hD1
end Go.Proofs.Ytahaclglkbgpcaa
