/- FifoTwins: the last loop, in which the queue is pushed into while it is gone over. -/
import Derived.Test.YtahaclglkbgpcaaFqT4
set_option linter.unusedVariables false
set_option linter.unusedSimpArgs false
namespace Go.Proofs.Ytahaclglkbgpcaa
open Go.RowKit Go.Shelf
set_option maxRecDepth 100000
attribute [local go_sem] Oper.semAt_some

def findRange : Code → Option Code
  | .rangeFunc g ps a b => some (.rangeFunc g ps a b)
  | .loop c => findRange c
  | .seq a b => match findRange a with
    | some c => some c
    | none => findRange b
  | .block _ c => findRange c
  | .scope c => findRange c
  | .cond _ a b => match findRange a with
    | some c => some c
    | none => findRange b
  | _ => none
noncomputable def rangeC : Code := ((Try.f4.body.bind findRange).getD .skip)

/-- The loop's invariant. -/
structure TJ (v x : Int) (w : World) (q qb lim : Nat) (vs : List Value) (mb Bs : Nat) (pre : List (Nat × Int)) (W : World) : Prop where
  tw : TW v w q qb lim (behind vs x pre) W
  met : W.heap[mb]? = some (.cells #[.int .i64 (pre.length : Int)] 3 (0, 0))
  box : W.heap[Bs]? = some (.cells #[.pointer (some ⟨q, 0, none⟩)] 23 (0, 0))
  lo : w.heap.size + 2 ≤ mb ∧ mb ≠ qb ∧ mb ≠ Bs
  apart : ∃ S, Qu IsI 84 3 W q lim (behind vs x pre) S ∧ ∀ k, S k → k ≠ mb ∧ k ≠ Bs

theorem TJ.ti {v x : Int} {w : World} {q qb lim : Nat} {vs : List Value} {mb Bs : Nat} {pre : List (Nat × Int)} {W : World} (h : TJ v x w q qb lim vs mb Bs pre W) : TI v x w q qb lim vs mb Bs pre W := ⟨h.tw, h.met, h.box⟩

theorem TJ.own (v x : Int) (w : World) (q qb lim : Nat) (vs : List Value) (mb Bs : Nat) (B : Nat) (hB : w.heap.size ≤ B) : OwnFrom B (TJ v x w q qb lim vs mb Bs) := by
  intro pre A C row hs hg hr
  have hr' : ∀ r, row = some r → ∃ o : Obj, A.heap[r]? = some o ∧ o.isCells = false := fun r e => (hr r e).2
  obtain ⟨h1, h2, h3⟩ := TI.own v x w q qb lim vs mb Bs B hB pre A C row hs.ti hg hr
  obtain ⟨S, ⟨ring, n, cap, first, cells, e1, e2, e3, e4⟩, h5⟩ := hs.apart
  exact ⟨h1, h2, h3, hs.lo, S, ⟨ring, n, cap, first, cells, e1.kept hg hr', e2, e3, e4⟩, h5⟩

section
variable {v x : Int} {w : World} {q qb lim : Nat} {vs : List Value} {mb Bs : Nat} {pre : List (Nat × Int)} {W W' : World}
/-- One more round, the queue as it is. -/
theorem TJ.met1 (h : TJ v x w q qb lim vs mb Bs pre W) (z : Nat × Int) (hne : pre.length ≠ 0) : TJ v x w q qb lim vs mb Bs (pre ++ [z]) (W.setCell ⟨mb, 0, none⟩ (.int .i64 ((pre.length : Int) + 1))) := by
  obtain ⟨S, h1, h2⟩ := h.apart
  have hb : behind vs x (pre ++ [z]) = behind vs x pre := by simp [behind, hne]
  have C : Chg (fun k => k = mb) W (W.setCell ⟨mb, 0, none⟩ (.int .i64 ((pre.length : Int) + 1))) := (Chg.refl _ W).setCell ⟨mb, 0, none⟩ _ rfl
  have lo := h.lo
  refine ⟨?_, ?_, C.heap h.box (fun e => lo.2.2 e.symm), lo, S, ?_, h2⟩
  · rw [hb]
    exact h.tw.other C (h.tw.below.setCell (p := ⟨mb, 0, none⟩) (by simp; omega) _) (fun k hk => by have : k = mb := hk; omega) (fun S2 Q2 k hk e => (h2 k (Q2.uniq h1 hk)).1 e)
  · have := heap_setCell_same W mb 0 _ 3 (.int .i64 ((pre.length : Int) + 1)) h.met
    rw [this]
    simp
  · rw [hb]
    exact h1.chg C (fun k hk e => (h2 k hk).1 e)

/-- The push of the first round. -/
theorem TJ.push (h : TJ v x w q qb lim vs mb Bs [] W) (hm : vs.length < lim) :
    Calls Try.prog 11 #[.pointer (some ⟨q, 0, none⟩), .int .i64 x] W fun e W' => e = .returned .nilIface ∧ KeepsFrom w.heap.size W W' ∧ W'.cell? ⟨mb, 0, none⟩ = some (.int .i64 0) ∧ W'.frozen? ⟨mb, 0, none⟩ = false ∧
      ∀ z, TJ v x w q qb lim vs mb Bs [z] (W'.setCell ⟨mb, 0, none⟩ (.int .i64 1)) := by
  obtain ⟨S, h1, h2⟩ := h.apart
  obtain ⟨S1, g1, g2⟩ := h.tw.ex
  have T := h.tw
  have lo := h.lo
  have hbx := (Array.getElem?_eq_some_iff.1 h.box).1
  have hmx := (Array.getElem?_eq_some_iff.1 h.met).1
  have hb0 : behind vs x [] = vs := by simp [behind]
  rw [hb0] at h1
  refine (push_ok _ x h1 hm).mono ?_
  rintro e W' ⟨rfl, S2, Q2, C2, F2⟩
  have h5 : ∀ k, S k → w.heap.size + 2 ≤ k ∧ k ≠ qb := fun k hk => g2 k (h1.uniq (by rw [hb0] at g1; exact g1) hk)
  have hlo : ∀ k, ¬ (w.heap.size + 2 ≤ k ∧ k ≠ qb) → ¬ S k := fun k hk hs => hk (h5 k hs)
  have hq := T.qlt
  have hql := T.lo
  have h6 : ∀ k, S2 k → w.heap.size + 2 ≤ k ∧ k ≠ qb := by
    intro k hk
    rcases F2 k hk with h | h
    · exact h5 k h
    · omega
  have h7 : ∀ k, S2 k → k ≠ mb ∧ k ≠ Bs := by
    intro k hk
    rcases F2 k hk with h | h
    · exact h2 k h
    · omega
  have hmet := C2.heap h.met (fun hs => (h2 _ hs).1 rfl)
  have hbox := C2.heap h.box (fun hs => (h2 _ hs).2 rfl)
  have T2 : TW v w q qb lim (vs ++ [.int .i64 x]) W' := ⟨T.below.trans (C2.below T.below.size (fun k hk => by have := (h5 k hk).1; omega)), C2.heap T.hv (hlo _ (by omega)), C2.heap T.hr (hlo _ (by omega)), C2.heap T.hq (hlo _ (by omega)), T.lo, S2, Q2, h6⟩
  refine ⟨rfl, h1.keeps C2 _, by simp [World.cell?, hmet], by simp [World.frozen?, hmet], fun z => ?_⟩
  have hb1 : behind vs x [z] = vs ++ [.int .i64 x] := by simp [behind]
  have C : Chg (fun k => k = mb) W' (W'.setCell ⟨mb, 0, none⟩ (.int .i64 1)) := (Chg.refl _ W').setCell ⟨mb, 0, none⟩ _ rfl
  refine ⟨?_, ?_, C.heap hbox (fun e => lo.2.2 e.symm), lo, S2, ?_, h7⟩
  · rw [hb1]
    exact T2.other C (T2.below.setCell (p := ⟨mb, 0, none⟩) (by simp; omega) _) (fun k hk => by have : k = mb := hk; omega) (fun S3 Q3 k hk e => (h7 k (Q3.uniq Q2 hk)).1 e)
  · have := heap_setCell_same W' mb 0 _ 3 (.int .i64 1) hmet
    rw [this]
    simp
  · rw [hb1]
    exact Q2.chg C (fun k hk e => (h7 k hk).1 e)
end

theorem KeepsFrom.up {B C : Nat} {W W' : World} (h : KeepsFrom B W W') (hb : B ≤ C) : KeepsFrom C W W' := ⟨h.size, fun k o hk h1 h2 => h.same k o (Nat.le_trans hb hk) h1 h2⟩

set_option maxHeartbeats 4000000 in
theorem twins_range {x0 x1 x2 x6 x7 x8 x9 x10 x12 x13 x14 x15 x16 x17 x18 x19 x20 x21 x22 x23 x24 x25 x26 x27 x28 x29 x30 x31 x32 x33 x34 x35 x36 x37 x38 x39 x40 x41 x42 x43 x44 x45 x46 x47 x48 x49 x50 x51 x52 x53 x54 x55 x56 x57 x58 x59 x60 x61 x62 x63 x64 x65 x66 x67 x68 x69 x70 x71 x72 x73 x74 x75 x76 x77 x78 x79 x80 x81 x82 x83 x84 x85 x86 x87 x88 x89 x90 x91 x92 x93 x94 x95 x96 x97 x98 x99 x100 x101 x102 x103 x105 x106 x107 x108 x109 x110 x111 x112 x113 x114 x115 x116 x117 x118 x119 x120 x121 x122 x123 x124 x125 x126 x127 x128 x129 x130 x131 x132 x133 x134 x135 x136 x137 x138 x139 : Value} {v : Int} {w : World} {q qb lim mb Bs : Nat} {vs : List Value} {W : World} {Q : Exit → Act → World → Prop} (hm : vs.length < lim) (hI : ∀ u ∈ vs, IsI u) (hn : 0 < vs.length) (h0 : TJ v (wrap64 (v + 1)) w q qb lim vs mb Bs [] W)
    (hK : Hid (∀ (D : Nat) (W' : World), W.heap.size ≤ D → (∃ xs : List (Nat × Int), xs.length = vs.length + 1 ∧ TJ v (wrap64 (v + 1)) w q qb lim vs mb Bs xs W') → W'.heap[D]? = some (.deferred (some [])) → Q .normal { tmps := #[x0, x1, x2, .pointer (some ⟨w.heap.size, 0, none⟩), .pointer (some ⟨w.heap.size + 1, 0, none⟩), .pointer (some ⟨qb, 0, none⟩), x6, x7, x8, x9, x10, .pointer (some ⟨mb, 0, none⟩), x12, x13, x14, x15, x16, x17, x18, x19, x20, x21, x22, x23, x24, x25, x26, x27, x28, x29, x30, x31, x32, x33, x34, x35, x36, x37, x38, x39, x40, x41, x42, x43, x44, x45, x46, x47, x48, x49, x50, x51, x52, x53, x54, x55, x56, x57, x58, x59, x60, x61, x62, x63, x64, x65, x66, x67, x68, x69, x70, x71, x72, x73, x74, x75, x76, x77, x78, x79, x80, x81, x82, x83, x84, x85, x86, x87, x88, x89, x90, x91, x92, x93, x94, x95, x96, x97, x98, x99, x100, x101, x102, x103, .func (.func 53) #[] #[.pointer (some ⟨Bs, 0, none⟩)], x105, x106, x107, x108, x109, x110, x111, x112, x113, x114, x115, x116, x117, x118, x119, x120, x121, x122, x123, x124, x125, x126, x127, x128, x129, x130, x131, x132, x133, x134, x135, x136, x137, x138, x139], defers := [{ target := .collected D, args := #[] }] } W')) :
    rangeC.wpIn Fence.wide 6 Try.prog Q ⟨#[x0, x1, x2, .pointer (some ⟨w.heap.size, 0, none⟩), .pointer (some ⟨w.heap.size + 1, 0, none⟩), .pointer (some ⟨qb, 0, none⟩), x6, x7, x8, x9, x10, .pointer (some ⟨mb, 0, none⟩), x12, x13, x14, x15, x16, x17, x18, x19, x20, x21, x22, x23, x24, x25, x26, x27, x28, x29, x30, x31, x32, x33, x34, x35, x36, x37, x38, x39, x40, x41, x42, x43, x44, x45, x46, x47, x48, x49, x50, x51, x52, x53, x54, x55, x56, x57, x58, x59, x60, x61, x62, x63, x64, x65, x66, x67, x68, x69, x70, x71, x72, x73, x74, x75, x76, x77, x78, x79, x80, x81, x82, x83, x84, x85, x86, x87, x88, x89, x90, x91, x92, x93, x94, x95, x96, x97, x98, x99, x100, x101, x102, x103, .func (.func 53) #[] #[.pointer (some ⟨Bs, 0, none⟩)], x105, x106, x107, x108, x109, x110, x111, x112, x113, x114, x115, x116, x117, x118, x119, x120, x121, x122, x123, x124, x125, x126, x127, x128, x129, x130, x131, x132, x133, x134, x135, x136, x137, x138, x139], []⟩ W := by
  obtain ⟨x, hx⟩ : ∃ x, x = wrap64 (v + 1) := ⟨_, rfl⟩
  rw [← hx] at h0 hK
  conv => arg 1; whnf
  have hBw : w.heap.size ≤ W.heap.size := h0.tw.below.size
  refine range_T (by omega) (gf := 53) (lb := #[.pointer (some ⟨Bs, 0, none⟩)]) rfl (enters_of Try.func53 (by kernel_rfl) rfl)
    (all1_T (6 - 1) (by omega) Bs q lim (fun k => if k = 0 then vs.length else vs.length + 1) (by intro k; split <;> simp) W) (fun _ => rfl)
    (TJ v x w q qb lim vs mb Bs) (TJ.own _ _ _ _ _ _ _ _ _ _ hBw) (fun pre W1 h => TI.word hI h.ti) h0 ?a1 ?assign ?body ?done
  case assign =>
    intro l y W1 K1 hK1
    gi_wp2
    exact hK1
  case body =>
    intro l pre y W1 hJ hok0
    obtain ⟨hok, hp4⟩ := hok0
    have HJ := Lib.hid hJ
    have cv := hJ.tw.cv
    have cq := hJ.tw.cq
    have cm : W1.cell? ⟨mb, 0, none⟩ = some (.int .i64 (pre.length : Int)) := by simp [World.cell?, hJ.met]
    have fm : W1.frozen? ⟨mb, 0, none⟩ = false := by simp [World.frozen?, hJ.met]
    by_cases hp : pre.length = 0
    · have hpe : pre = [] := List.length_eq_zero_iff.1 hp
      subst hpe
      obtain ⟨y1, y2⟩ := y
      simp only [List.length_nil] at hok
      subst hok
      have HX := Lib.hid hx
      clear hx
      have P := hJ.push hm
      have HP := Lib.hid P
      clear hJ P
      gi_wp2_with (refine ⟨trivial, ?_⟩; gi_at_call 11; rw [← HX.out]; refine (CallsIn.inRound l (callsIn_wide.2 HP.out)).mono ?_; rintro e w2 ⟨rfl, hk2, hm2, hf2, hT2⟩)
      have HT2 := Lib.hid (hT2 (0, y2))
      have HK2 := Lib.hid (KeepsFrom.up hk2 hBw)
      clear hT2 hk2
      gi_wp2_with fail
      exact ⟨HK2.out.trans ((KeepsOthers.setCell _ _ _).from _), HT2.out⟩
    · have HM1 := Lib.hid (hJ.met1 y hp)
      clear hJ
      obtain ⟨n, hn⟩ : ∃ n, n = pre.length := ⟨_, rfl⟩
      rw [← hn] at HM1 cm hp4 hok
      have HN := Lib.hid hn
      have hok0 : ((n : Int) == 0) = false := by simp; omega
      have hok1 : ¬ n = 0 := by omega
      clear hn hp
      gi_wp2_with fail
      refine ⟨trivial, ?_⟩
      gi_wp2_with fail
      exact ⟨(KeepsOthers.setCell _ _ _).from _, HM1.out⟩
  case done =>
    intro D ys W1 hD hS hJ hD1
    have hl : ys.length = vs.length + 1 := by
      by_cases h0 : ys.length = 0
      · rw [if_pos h0] at hS
        omega
      · rw [if_neg h0] at hS
        exact hS
    exact hK.out D W1 hD ⟨ys, hl, hJ⟩ hD1
end Go.Proofs.Ytahaclglkbgpcaa
