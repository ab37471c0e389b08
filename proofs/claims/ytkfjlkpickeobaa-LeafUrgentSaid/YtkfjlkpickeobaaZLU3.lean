/- Of the text LU3 only what this claim needs (shake.py, this repo's). -/
import Derived.Test.YtkfjlkpickeobaaZLU1
import Derived.Test.YtkfjlkpickeobaaZRd
set_option linter.unusedVariables false
set_option linter.unusedSimpArgs false
namespace Go.Proofs.Ytkfjlkpickeobaa
open Go.RowKit
open Go.Proofs.YtkfjlkpickeobaaW.PrintWords (Kd Drawn0 Kept rd rdOf)
open Go.Proofs.Ytkfjlkpickeobaa.PLeafUrgent
set_option maxRecDepth 100000

/-- The row of what is done. -/
def OPS (w : World) (A : Option Addr) (n : Nat) : Prop := n = 0 ∨ ∃ b o, A = some ⟨b, o, none⟩ ∧ ∀ i, i < n → ∃ k0 k1 k2 k3 k4 k5 k6 : Int,
  w.cell? ⟨b, o + i * 7, none⟩ = some (.int .i64 k0) ∧ w.cell? ⟨b, o + i * 7 + 1, none⟩ = some (.int .i64 k1) ∧ w.cell? ⟨b, o + i * 7 + 2, none⟩ = some (.int .i64 k2) ∧ w.cell? ⟨b, o + i * 7 + 3, none⟩ = some (.int .i64 k3) ∧ w.cell? ⟨b, o + i * 7 + 4, none⟩ = some (.int .i64 k4) ∧ w.cell? ⟨b, o + i * 7 + 5, none⟩ = some (.int .i64 k5) ∧ w.cell? ⟨b, o + i * 7 + 6, none⟩ = some (.int .i64 k6)
theorem ops_of_rd {a : Option Addr} {n c : Nat} {w : World} (h : Rd22 w [.slice a n c]) : OPS w a n ∧ n ≤ c ∧ n ≤ 9223372036854775807 := by
  obtain ⟨a', n', c', e, hc, hm, -, h⟩ := h
  simp only [List.cons.injEq, Value.slice.injEq, and_true] at e
  obtain ⟨rfl, rfl, rfl⟩ := e
  refine ⟨?_, hc, by unfold maxLen at hm; omega⟩
  rcases h with h | ⟨b, o, e, h⟩
  · exact .inl h
  · refine .inr ⟨b, o, e, fun i hi => ?_⟩
    obtain ⟨ce, -, hcell, c0, c1, c2, c3, rfl, ⟨k0, rfl, -⟩, ⟨k1, rfl, -⟩, ⟨k2, rfl, -⟩, ⟨d0, d1, d2, d3, rfl, ⟨k3, rfl, -⟩, ⟨k4, rfl, -⟩, ⟨k5, rfl, -⟩, ⟨k6, rfl, -⟩⟩⟩ := h i hi
    exact ⟨k0, k1, k2, k3, k4, k5, k6, hcell 0 (by omega), hcell 1 (by omega), hcell 2 (by omega), hcell 3 (by omega), hcell 4 (by omega), hcell 5 (by omega), hcell 6 (by omega)⟩
theorem tk_sz {T : Tk} (h : T.okB = true) : T.js.length * 32 ≤ 140737488351232 := by have := Tk.ok_len h; omega
theorem LI.okL {xs : List Sk} {used gone : Int} {k : Nat} (h : LI xs used gone k) {j i : Nat} {x : Sk} (hx : (tkL 0 xs)[j]? = some (i, x)) : x.T.okB = true := by
  have hs := tkL_at hx
  exact h.ok i x hs.1 hs.2.1
theorem fold_next {α : Type} {f : Int → α → Int} {L : List α} {j : Nat} {x : α} {b s : Int} (h : (L.take j).foldl f s = b) (hx : L[j]? = some x) : (L.take (j + 1)).foldl f s = f b x := by
  rw [List.take_add_one, hx]
  simp only [Option.toList_some, List.foldl_append, h, List.foldl_cons, List.foldl_nil]

theorem umod (z m : Int) (h0 : 0 < m) (h1 : m ≤ 1000000) : ∃ r : Nat, wrap64 ((IntKind.u64.wrap z).tmod m) = (r : Int) ∧ (r : Int) < m := by
  have hu : 0 ≤ IntKind.u64.wrap z := by simp only [IntKind.wrap_u64]; omega
  rw [Int.tmod_eq_emod_of_nonneg hu]
  have a := Int.emod_nonneg (IntKind.u64.wrap z) (by omega : m ≠ 0)
  have b := Int.emod_lt_of_pos (IntKind.u64.wrap z) h0
  refine ⟨(IntKind.u64.wrap z % m).toNat, ?_, by omega⟩
  unfold wrap64
  omega
theorem w64_i (z : Int) : IntKind.i64.wrap z = wrap64 z := by rw [IntKind.wrap_i64]; unfold wrap64; omega
theorem ladd_any (p t g cap : Nat) (prio : Int) (xs : List Sk) (w : World) (H : LF w p t g cap xs) (hp : 0 ≤ prio ∧ prio ≤ 31) {used gone : Int} {k : Nat} (hI : LI xs used gone k) :
    Calls Try.prog 9 #[.pointer (some ⟨p, 0, none⟩), .int .i64 prio] w fun e w' => ∃ a b ys, e = .returned (.tuple #[a, b]) ∧ LF w' p t g cap ys ∧ Chg (fun k => k = g) w w' ∧ LI ys used gone (k + 1) := by
  rcases free_or xs with ⟨i, x, hx, hf, ha⟩ | ha
  · refine (ladd_hit p t g cap i prio xs x w H hp hx hf ha).mono ?_
    rintro e w' ⟨v, rfl, hL, hc⟩
    refine ⟨_, _, _, rfl, hL, hc, hI.set _ hx (fun _ => ?_) (by unfold gx; rw [if_pos rfl, if_neg (by rw [hf.1]; decide)]; show (0 : Int) - 0 = _; omega) (by have := hI.us; omega) hI.go⟩
    exact okB_of hp (by simp) (by unfold accP; simp) (fun y hy => by simp at hy)
  · refine (ladd_full p t g cap prio xs w H hp ha).mono ?_
    rintro e w' ⟨rfl, hb⟩
    exact ⟨_, _, xs, rfl, H.below hb, Chg.ofBelow hb _, hI.next⟩

def findLoop (n : Nat) : Code → Option Code
  | .loop c => findLoop n c
  | .seq a b => match findLoop n a with
    | some c => some c
    | none => findLoop n b
  | .block k c => if k == n then some c else findLoop n c
  | .scope c => findLoop n c
  | .cond _ a b => match findLoop n a with
    | some c => some c
    | none => findLoop n b
  | _ => none
def findReg (n : Nat) : Code → Option Code
  | .region k ops d => if k == n then some (.region k ops d) else none
  | .loop c => findReg n c
  | .seq a b => match findReg n a with
    | some c => some c
    | none => findReg n b
  | .block _ c => findReg n c
  | .scope c => findReg n c
  | .cond _ a b => match findReg n a with
    | some c => some c
    | none => findReg n b
  | _ => none
noncomputable def loopU (n : Nat) : Code := ((Try.f3.body.bind (findLoop n)).getD .skip)
theorem wp_in1 {P : Program} {c : Code} {K : Act → World → Prop} {Q : Exit → Act → World → Prop} {a : Act} {w : World} (h : c.wp P (Exit.inBlock 1 (Exit.then K (fun _ _ _ => False))) a w) : c.wp P (Exit.inBlock 1 (Exit.then K Q)) a w := by
  refine Code.wp_mono ?_ h
  intro e a1 w1 h1
  cases e with
  | normal => exact h1
  | exit n =>
    unfold Exit.inBlock at h1 ⊢
    dsimp only at h1 ⊢
    split at h1
    · next hn => rw [if_pos hn]; exact h1
    · exact h1.elim
  | ret => exact h1.elim
  | _ => exact h1.elim
noncomputable def regU (n : Nat) : Code := ((Try.f3.body.bind (findReg n)).getD .skip)

set_option maxHeartbeats 8000000 in
theorem loopB {x0 x1 x2 x4 x5 x6 x10 x11 x12 x13 x14 x15 x16 x17 x18 x19 x20 x21 x22 x23 x24 x25 x26 x27 x28 x29 x30 x31 x32 x33 x34 x35 x36 x37 x38 x39 x40 x41 x42 x43 x44 x45 x46 x47 x48 x49 x50 x51 x52 x53 x54 x55 x56 x57 x58 x59 x60 x61 x62 x63 x64 x65 x66 x67 x68 x69 x70 x71 x72 x73 x74 x75 x76 x77 x78 x79 x80 x81 x82 x83 x84 x85 x86 x87 x88 x89 x90 x91 x92 x93 x94 x95 x96 x97 x98 x99 x100 x101 x102 x103 x104 x105 x106 x107 x108 x109 x110 x111 x112 x113 x114 x115 x116 x117 x118 x119 x120 x121 x122 x123 x124 x125 x126 x127 x128 x129 x130 x131 x132 x133 x134 x135 x136 x137 x138 x139 x140 x141 x142 x143 x144 x145 x146 x147 x148 x149 x150 x151 x152 x153 x154 x155 x156 x157 x158 x159 x160 x161 x162 x163 x164 x165 x166 x167 x168 x169 x170 x171 x172 x173 x174 x175 x176 x177 x178 x179 x180 x181 x182 x183 x184 x185 x186 x187 x188 x189 x190 x191 x192 x193 x194 x195 x196 x197 x198 x199 x200 x201 x202 x203 x204 x205 x206 x207 x208 x209 x210 x211 x212 x213 x214 x215 x216 x217 x218 x219 x220 x221 x222 x223 x224 x225 x226 x227 x228 : Value} {w w2 : World} {p t g cap m ca : Nat} {A2 : Option Addr} {xs : List Sk} {used gone : Int} {k bw : Nat} {K : Act → World → Prop} {Q : Exit → Act → World → Prop} (HM : Hid (m = (tkL 0 xs).length ∧ m ≤ 8)) (HR : Hid ((Kd.int .i64).R 27 w2 bw (fun _ => True) (.slice A2 m ca) (tallH 2 xs))) (HL2 : Hid (LF w2 p t g cap xs)) (HB2 : Hid (Below w.heap.size w w2)) (hI : Hid (LI xs used gone k)) (HXL : Hid (∀ (j i : Nat) (x : Sk), (tkL 0 xs)[j]? = some (i, x) → x.T.js.length * 32 ≤ 140737488351232))
    (hK : Hid (∀ (bb : Int) (W : World) (n10 n11 n47 n48 n49 n50 n51 n52 n53 n54 n55 n56 n57 n58 n59 n60 n61 n62 n63 n64 n65 n66 n67 n68 n69 n70 n71 n72 n73 n74 n75 n76 n77 : Value), bestF xs = bb → (-1 ≤ bb ∧ bb ≤ 31) → Below w.heap.size w W → Below w2.heap.size w2 W → K ⟨#[x0, x1, x2, .pointer (some ⟨p, 0, none⟩), x4, x5, x6, .slice A2 m ca, .int .i64 bb, .int .i64 (m : Int), n10, n11, x12, x13, x14, x15, x16, x17, x18, x19, x20, x21, x22, x23, x24, x25, x26, x27, x28, x29, x30, x31, x32, x33, x34, x35, x36, x37, x38, x39, x40, x41, x42, x43, x44, x45, x46, n47, n48, n49, n50, n51, n52, n53, n54, n55, n56, n57, n58, n59, n60, n61, n62, n63, n64, n65, n66, n67, n68, n69, n70, n71, n72, n73, n74, n75, n76, n77, x78, x79, x80, x81, x82, x83, x84, x85, x86, x87, x88, x89, x90, x91, x92, x93, x94, x95, x96, x97, x98, x99, x100, x101, x102, x103, x104, x105, x106, x107, x108, x109, x110, x111, x112, x113, x114, x115, x116, x117, x118, x119, x120, x121, x122, x123, x124, x125, x126, x127, x128, x129, x130, x131, x132, x133, x134, x135, x136, x137, x138, x139, x140, x141, x142, x143, x144, x145, x146, x147, x148, x149, x150, x151, x152, x153, x154, x155, x156, x157, x158, x159, x160, x161, x162, x163, x164, x165, x166, x167, x168, x169, x170, x171, x172, x173, x174, x175, x176, x177, x178, x179, x180, x181, x182, x183, x184, x185, x186, x187, x188, x189, x190, x191, x192, x193, x194, x195, x196, x197, x198, x199, x200, x201, x202, x203, x204, x205, x206, x207, x208, x209, x210, x211, x212, x213, x214, x215, x216, x217, x218, x219, x220, x221, x222, x223, x224, x225, x226, x227, x228], []⟩ W)) :
    Code.wp Try.prog (loopU 2) (Exit.inBlock 2 (Exit.then K Q)) ⟨#[x0, x1, x2, .pointer (some ⟨p, 0, none⟩), x4, x5, x6, .slice A2 m ca, .int .i64 (-1), .int .i64 0, x10, x11, x12, x13, x14, x15, x16, x17, x18, x19, x20, x21, x22, x23, x24, x25, x26, x27, x28, x29, x30, x31, x32, x33, x34, x35, x36, x37, x38, x39, x40, x41, x42, x43, x44, x45, x46, x47, x48, x49, x50, x51, x52, x53, x54, x55, x56, x57, x58, x59, x60, x61, x62, x63, x64, x65, x66, x67, x68, x69, x70, x71, x72, x73, x74, x75, x76, x77, x78, x79, x80, x81, x82, x83, x84, x85, x86, x87, x88, x89, x90, x91, x92, x93, x94, x95, x96, x97, x98, x99, x100, x101, x102, x103, x104, x105, x106, x107, x108, x109, x110, x111, x112, x113, x114, x115, x116, x117, x118, x119, x120, x121, x122, x123, x124, x125, x126, x127, x128, x129, x130, x131, x132, x133, x134, x135, x136, x137, x138, x139, x140, x141, x142, x143, x144, x145, x146, x147, x148, x149, x150, x151, x152, x153, x154, x155, x156, x157, x158, x159, x160, x161, x162, x163, x164, x165, x166, x167, x168, x169, x170, x171, x172, x173, x174, x175, x176, x177, x178, x179, x180, x181, x182, x183, x184, x185, x186, x187, x188, x189, x190, x191, x192, x193, x194, x195, x196, x197, x198, x199, x200, x201, x202, x203, x204, x205, x206, x207, x208, x209, x210, x211, x212, x213, x214, x215, x216, x217, x218, x219, x220, x221, x222, x223, x224, x225, x226, x227, x228], []⟩ w2 := by
  have hm8 := HM.out.2
  dsimp only
  conv => arg 2; whnf
  go_loopw [8, 9] (fun bv iv wr => ∃ (j : Nat) (bb : Int), j ≤ m ∧ bv = .int .i64 bb ∧ iv = .int .i64 j ∧ (-1 ≤ bb ∧ bb ≤ 31) ∧ Hid (((tkL 0 xs).take j).foldl bStep (-1) = bb) ∧ Hid (Below w.heap.size w wr) ∧ Hid (Below w2.heap.size w2 wr)) (fun _ i _ => m - (intOf i).toNat)
  case atStart => exact ⟨0, -1, Nat.zero_le _, rfl, rfl, by omega, Lib.hid rfl, HB2, Lib.hid (Below.refl _ _)⟩
  case round =>
    clear HB2
    obtain ⟨j, bb, hj, rfl, rfl, hbb, hF, hB, hB2⟩ := hrel
    by_cases hjm : j < m
    · obtain ⟨⟨i, x⟩, hx⟩ : ∃ q, (tkL 0 xs)[j]? = some q := ⟨_, List.getElem?_eq_getElem (by have := HM.out.1; omega)⟩
      have hs := tkL_at hx
      obtain ⟨gh, rfl, hc⟩ := int_at HR.out (tall_at hx)
      have hcr := keep hB2.out hc
      obtain ⟨hh, hhh⟩ : ∃ y, y = mk 2 i x.f0 := ⟨_, rfl⟩
      have HTK := Lib.hid (ltask_hit p t g cap i (mk 2 i x.f0) xs x wr (HL2.out.below hB2.out) hs (HXL.out j i x hx))
      rw [← hhh] at HTK hcr
      have HST := Lib.hid (fold_next (f := bStep) hF.out hx)
      have hpp := Tk.ok_p (hI.out.okL hx)
      clear hs hc hx hhh
      go_wp2_with fail
      refine HTK.out.mono ?_
      rintro e w3 ⟨v, rfl, hj3, hb3⟩
      obtain ⟨B, d, rfl⟩ := hj3.slice
      obtain ⟨jl, hjl⟩ : ∃ y, y = x.T.js.length := ⟨_, rfl⟩
      have HJL := Lib.hid hjl
      have HB3 := Lib.hid (below_alloc (below_call hB.out (Nat.le_refl _) hb3) (by have := hB.out.size; have := hb3.size; omega) (.cells #[.int .i64 x.T.p, .slice B x.T.js.length d, .int .i64 x.T.g, .int .i64 x.T.o, .int .i64 x.T.l, .int .i64 x.T.d, .int .i64 x.T.c, .int .i64 x.T.t] 36))
      have HB23 := Lib.hid (below_alloc (below_call hB2.out (Nat.le_refl _) hb3) (by have := hB2.out.size; have := hb3.size; omega) (.cells #[.int .i64 x.T.p, .slice B x.T.js.length d, .int .i64 x.T.g, .int .i64 x.T.o, .int .i64 x.T.l, .int .i64 x.T.d, .int .i64 x.T.c, .int .i64 x.T.t] 36))
      clear hj3 hb3 hcr hjl
      rw [← HJL.out] at HB3 HB23 ⊢
      by_cases z0 : jl = 0
      · subst z0
        have hst : bStep bb (i, x) = bb := if_neg (fun h => by have h1 := h.1; have := HJL.out; simp only at h1; omega)
        have HN := Lib.hid (HST.out.trans hst)
        clear hst
        go_wp2
        go_roundw
        case rel => exact ⟨j + 1, bb, by omega, rfl, by go_num, by omega, HN, HB3, HB23⟩
        case measure => simp [intOf]; omega
      · have z1 : decide ((0 : Int) < (jl : Int)) = true := decide_eq_true (by omega)
        have z2 : decide (0 < jl) = true := decide_eq_true (by omega)
        by_cases z3 : bb < 0
        · have hst : bStep bb (i, x) = x.T.p := if_pos ⟨by show 0 < x.T.js.length; have := HJL.out; omega, .inl z3⟩
          have HN := Lib.hid (HST.out.trans hst)
          have z4 : decide (bb < 0) = true := decide_eq_true z3
          clear hst z3 z0
          go_wp2
          go_roundw
          case rel => exact ⟨j + 1, x.T.p, by omega, rfl, by go_num, by omega, HN, HB3, HB23⟩
          case measure => simp [intOf]; omega
        · have z4 : decide (bb < 0) = false := decide_eq_false z3
          by_cases z5 : x.T.p < bb
          · have hst : bStep bb (i, x) = x.T.p := if_pos ⟨by show 0 < x.T.js.length; have := HJL.out; omega, .inr z5⟩
            have HN := Lib.hid (HST.out.trans hst)
            have z6 : decide (x.T.p < bb) = true := decide_eq_true z5
            clear hst z3 z5 z0
            go_wp2
            go_roundw
            case rel => exact ⟨j + 1, x.T.p, by omega, rfl, by go_num, by omega, HN, HB3, HB23⟩
            case measure => simp [intOf]; omega
          · have hst : bStep bb (i, x) = bb := if_neg (fun h => by rcases h.2 with h | h; exact z3 h; exact z5 h)
            have HN := Lib.hid (HST.out.trans hst)
            have z6 : decide (x.T.p < bb) = false := decide_eq_false z5
            clear hst z3 z5 z0
            go_wp2
            go_roundw
            case rel => exact ⟨j + 1, bb, by omega, rfl, by go_num, by omega, HN, HB3, HB23⟩
            case measure => simp [intOf]; omega
    · have hbF : bestF xs = bb := by
        have h := hF.out
        rw [List.take_of_length_le (by have := HM.out.1; omega)] at h
        exact h
      obtain rfl : j = m := by omega
      have HBF := Lib.hid hbF
      clear hbF
      go_wp2_with fail
      exact hK.out bb wr _ _ _ _ _ _ _ _ _ _ _ _ _ _ _ _ _ _ _ _ _ _ _ _ _ _ _ _ _ _ _ _ _ HBF.out (by omega) hB.out hB2.out

set_option maxHeartbeats 8000000 in
theorem loopS {x0 x1 x2 x4 x5 x6 x7 x8 x9 x10 x11 x12 x13 x14 x15 x16 x17 x18 x19 x20 x24 x25 x26 x27 x28 x29 x30 x31 x32 x33 x34 x35 x36 x37 x38 x39 x40 x41 x42 x43 x44 x45 x46 x47 x48 x49 x50 x51 x52 x53 x54 x55 x56 x57 x58 x59 x60 x61 x62 x63 x64 x65 x66 x67 x68 x69 x70 x71 x72 x73 x74 x75 x76 x77 x78 x79 x80 x81 x82 x83 x84 x85 x86 x87 x88 x89 x90 x91 x92 x93 x94 x95 x96 x97 x98 x99 x100 x101 x102 x103 x104 x105 x106 x107 x108 x109 x110 x111 x112 x113 x114 x115 x116 x117 x118 x119 x120 x121 x122 x123 x124 x125 x126 x127 x128 x129 x130 x131 x132 x133 x134 x135 x136 x137 x138 x139 x140 x141 x142 x143 x144 x145 x146 x147 x148 x149 x150 x151 x152 x153 x154 x155 x156 x157 x158 x159 x160 x161 x162 x163 x164 x165 x166 x167 x168 x169 x170 x171 x172 x173 x174 x175 x176 x177 x178 x179 x180 x181 x182 x183 x184 x185 x186 x187 x188 x189 x190 x191 x192 x193 x194 x195 x196 x197 x198 x199 x200 x201 x202 x203 x204 x205 x206 x207 x208 x209 x210 x211 x212 x213 x214 x215 x216 x217 x218 x219 x220 x221 x222 x223 x224 x225 x226 x227 x228 : Value} {w w2 : World} {p t g cap m ca : Nat} {A2 : Option Addr} {xs : List Sk} {used gone : Int} {k bw : Nat} {K : Act → World → Prop} {Q : Exit → Act → World → Prop} (HM : Hid (m = (tkL 0 xs).length ∧ m ≤ 8)) (HR : Hid ((Kd.int .i64).R 27 w2 bw (fun _ => True) (.slice A2 m ca) (tallH 2 xs))) (HL2 : Hid (LF w2 p t g cap xs)) (HB2 : Hid (Below w.heap.size w w2)) (hI : Hid (LI xs used gone k)) (HXL : Hid (∀ (j i : Nat) (x : Sk), (tkL 0 xs)[j]? = some (i, x) → x.T.js.length * 32 ≤ 140737488351232)) (hgb : 0 ≤ gone ∧ gone ≤ 200) (hub : 0 ≤ used ∧ used ≤ 200)
    (hK : Hid (∀ (W : World) (n24 n25 n203 n204 n205 n206 n207 n208 n209 n210 n211 n212 n213 n214 n215 n216 n217 n218 n219 n220 n221 n222 : Value), Below w.heap.size w W → K ⟨#[x0, x1, x2, .pointer (some ⟨p, 0, none⟩), x4, x5, x6, x7, x8, x9, x10, x11, x12, x13, x14, x15, x16, x17, x18, x19, x20, .int .i64 used, .slice A2 m ca, .int .i64 (m : Int), n24, n25, x26, x27, x28, x29, x30, x31, x32, x33, x34, x35, x36, x37, x38, x39, x40, x41, x42, x43, x44, x45, x46, x47, x48, x49, x50, x51, x52, x53, x54, x55, x56, x57, x58, x59, x60, x61, x62, x63, x64, x65, x66, x67, x68, x69, x70, x71, x72, x73, x74, x75, x76, x77, x78, x79, x80, x81, x82, x83, x84, x85, x86, x87, x88, x89, x90, x91, x92, x93, x94, x95, x96, x97, x98, x99, x100, x101, x102, x103, x104, x105, x106, x107, x108, x109, x110, x111, x112, x113, x114, x115, x116, x117, x118, x119, x120, x121, x122, x123, x124, x125, x126, x127, x128, x129, x130, x131, x132, x133, x134, x135, x136, x137, x138, x139, x140, x141, x142, x143, x144, x145, x146, x147, x148, x149, x150, x151, x152, x153, x154, x155, x156, x157, x158, x159, x160, x161, x162, x163, x164, x165, x166, x167, x168, x169, x170, x171, x172, x173, x174, x175, x176, x177, x178, x179, x180, x181, x182, x183, x184, x185, x186, x187, x188, x189, x190, x191, x192, x193, x194, x195, x196, x197, x198, x199, x200, x201, x202, n203, n204, n205, n206, n207, n208, n209, n210, n211, n212, n213, n214, n215, n216, n217, n218, n219, n220, n221, n222, x223, x224, x225, x226, x227, x228], []⟩ W)) :
    Code.wp Try.prog (loopU 4) (Exit.inBlock 4 (Exit.then K Q)) ⟨#[x0, x1, x2, .pointer (some ⟨p, 0, none⟩), x4, x5, x6, x7, x8, x9, x10, x11, x12, x13, x14, x15, x16, x17, x18, x19, x20, .int .i64 gone, .slice A2 m ca, .int .i64 0, x24, x25, x26, x27, x28, x29, x30, x31, x32, x33, x34, x35, x36, x37, x38, x39, x40, x41, x42, x43, x44, x45, x46, x47, x48, x49, x50, x51, x52, x53, x54, x55, x56, x57, x58, x59, x60, x61, x62, x63, x64, x65, x66, x67, x68, x69, x70, x71, x72, x73, x74, x75, x76, x77, x78, x79, x80, x81, x82, x83, x84, x85, x86, x87, x88, x89, x90, x91, x92, x93, x94, x95, x96, x97, x98, x99, x100, x101, x102, x103, x104, x105, x106, x107, x108, x109, x110, x111, x112, x113, x114, x115, x116, x117, x118, x119, x120, x121, x122, x123, x124, x125, x126, x127, x128, x129, x130, x131, x132, x133, x134, x135, x136, x137, x138, x139, x140, x141, x142, x143, x144, x145, x146, x147, x148, x149, x150, x151, x152, x153, x154, x155, x156, x157, x158, x159, x160, x161, x162, x163, x164, x165, x166, x167, x168, x169, x170, x171, x172, x173, x174, x175, x176, x177, x178, x179, x180, x181, x182, x183, x184, x185, x186, x187, x188, x189, x190, x191, x192, x193, x194, x195, x196, x197, x198, x199, x200, x201, x202, x203, x204, x205, x206, x207, x208, x209, x210, x211, x212, x213, x214, x215, x216, x217, x218, x219, x220, x221, x222, x223, x224, x225, x226, x227, x228], []⟩ w2 := by
  have hm8 := HM.out.2
  dsimp only
  conv => arg 2; whnf
  go_loopw [21, 23] (fun sv iv wr => ∃ (j : Nat) (s : Int), j ≤ m ∧ sv = .int .i64 s ∧ iv = .int .i64 j ∧ (0 ≤ s ∧ s ≤ 200 + 200 * j) ∧ Hid (((tkL 0 xs).take j).foldl (fun s q => s + q.2.T.g) gone = s) ∧ Hid (Below w.heap.size w wr) ∧ Hid (Below w2.heap.size w2 wr)) (fun _ i _ => m - (intOf i).toNat)
  case atStart => exact ⟨0, gone, Nat.zero_le _, rfl, rfl, by omega, Lib.hid rfl, HB2, Lib.hid (Below.refl _ _)⟩
  case round =>
    clear HB2
    obtain ⟨j, s, hj, rfl, rfl, hsb, hF, hB, hB2⟩ := hrel
    by_cases hjm : j < m
    · obtain ⟨⟨i, x⟩, hx⟩ : ∃ q, (tkL 0 xs)[j]? = some q := ⟨_, List.getElem?_eq_getElem (by have := HM.out.1; omega)⟩
      have hs := tkL_at hx
      obtain ⟨gh, rfl, hc⟩ := int_at HR.out (tall_at hx)
      have hcr := keep hB2.out hc
      obtain ⟨hh, hhh⟩ : ∃ y, y = mk 2 i x.f0 := ⟨_, rfl⟩
      have HTK := Lib.hid (ltask_hit p t g cap i (mk 2 i x.f0) xs x wr (HL2.out.below hB2.out) hs (HXL.out j i x hx))
      rw [← hhh] at HTK hcr
      have HST := Lib.hid (fold_next (f := fun s (q : Nat × Sk) => s + q.2.T.g) hF.out hx)
      have hgx := hI.out.g0 hs.1 hs.2.1
      have hgo := hI.out.go
      clear hs hc hx hhh
      go_wp2_with fail
      refine HTK.out.mono ?_
      rintro e w3 ⟨v, rfl, hj3, hb3⟩
      obtain ⟨B, d, rfl⟩ := hj3.slice
      have HB3 := Lib.hid (below_alloc (below_call hB.out (Nat.le_refl _) hb3) (by have := hB.out.size; have := hb3.size; omega) (.cells #[.int .i64 x.T.p, .slice B x.T.js.length d, .int .i64 x.T.g, .int .i64 x.T.o, .int .i64 x.T.l, .int .i64 x.T.d, .int .i64 x.T.c, .int .i64 x.T.t] 36))
      have HB23 := Lib.hid (below_alloc (below_call hB2.out (Nat.le_refl _) hb3) (by have := hB2.out.size; have := hb3.size; omega) (.cells #[.int .i64 x.T.p, .slice B x.T.js.length d, .int .i64 x.T.g, .int .i64 x.T.o, .int .i64 x.T.l, .int .i64 x.T.d, .int .i64 x.T.c, .int .i64 x.T.t] 36))
      clear hj3 hb3 hcr
      go_wp2
      go_roundw
      case rel => exact ⟨j + 1, s + x.T.g, by omega, by go_num, by go_num, by omega, HST, HB3, HB23⟩
      case measure => simp [intOf]; omega
    · have hsu : s = used := by
        have h := hF.out
        rw [List.take_of_length_le (by have := HM.out.1; omega)] at h
        have h1 := sumT_add (tkL 0 xs) gone
        have h2 := sumG_tk xs 0
        have h3 := hI.out.sum
        unfold sumT at h1 h2
        omega
      subst hsu
      obtain rfl : j = m := by omega
      go_wp2_with fail
      exact hK.out wr _ _ _ _ _ _ _ _ _ _ _ _ _ _ _ _ _ _ _ _ _ _ hB.out

set_option maxHeartbeats 8000000 in
theorem reg32a {x1 x2 x4 x5 x7 x8 x9 x10 x11 x12 x13 x14 x15 x16 x17 x19 x20 x21 x22 x23 x24 x25 x26 x27 x28 x29 x30 x31 x32 x33 x34 x35 x36 x37 x38 x39 x40 x41 x42 x43 x44 x45 x46 x47 x48 x49 x50 x51 x52 x53 x54 x55 x56 x57 x58 x59 x60 x61 x62 x63 x64 x65 x66 x67 x68 x69 x70 x71 x72 x73 x74 x75 x76 x77 x78 x79 x80 x81 x82 x83 x84 x85 x86 x87 x88 x89 x90 x91 x92 x93 x94 x95 x96 x97 x98 x99 x100 x101 x102 x103 x104 x105 x106 x107 x108 x109 x110 x111 x112 x113 x114 x115 x116 x117 x118 x119 x120 x121 x122 x123 x124 x125 x126 x127 x128 x129 x130 x131 x132 x133 x134 x135 x136 x137 x138 x139 x140 x141 x142 x143 x144 x145 x146 x147 x148 x149 x150 x151 x152 x153 x154 x155 x156 x157 x158 x159 x160 x161 x162 x163 x164 x165 x166 x167 x168 x169 x170 x171 x172 x173 x174 x175 x176 x177 x178 x179 x180 x181 x182 x183 x184 x185 x186 x187 x188 x189 x190 x191 x192 x193 x194 x195 x196 x197 x198 x199 x200 x201 x202 x203 x204 x205 x206 x207 x208 x209 x210 x211 x212 x213 x214 x215 x216 x217 x218 x219 x220 x221 x222 x223 x224 x225 x226 x227 x228 : Value} {w w2 : World} {p t g cap b o n c k i r5 r4 : Nat} {xs : List Sk} {x : Sk} {T1 : Tk} {hh f0 f1 used gone E : Int} {K : Act → World → Prop} {Q : Exit → Act → World → Prop} (hlt : k < n) (hn : n ≤ 9223372036854775807) (c3' : w2.cell? ⟨b, o + k * 7 + 3, none⟩ = some (.int .i64 f0)) (c4' : w2.cell? ⟨b, o + k * 7 + 4, none⟩ = some (.int .i64 f1)) (hr5' : IntKind.i64.wrap ((IntKind.u64.wrap f0).tmod 5) = (r5 : Int)) (hr4' : IntKind.i64.wrap ((IntKind.u64.wrap f1).tmod 4) = (r4 : Int)) (hs5 : IntKind.i64.wrap (1 + (r5 : Int)) = 1 + (r5 : Int)) (hr5 : wrap64 ((IntKind.u64.wrap f0).tmod 5) = (r5 : Int)) (hr4 : wrap64 ((IntKind.u64.wrap f1).tmod 4) = (r4 : Int)) (hrb : (r5 : Int) < 5 ∧ (r4 : Int) < 4) (HL2 : Hid (LF w2 p t g cap xs)) (HB2 : Hid (Below w.heap.size w w2)) (HG : Hid (w.heap.size ≤ g)) (hI : Hid (LI xs used gone k)) (hub : 0 ≤ used ∧ used ≤ 200) (hgb : 0 ≤ gone ∧ gone ≤ 200) (HPS : Hid (∀ W, Below w2.heap.size w2 W → Calls Try.prog 11 #[.pointer (some ⟨p, 0, none⟩), .int .i64 hh, jv ⟨1 + (r5 : Int), (r4 : Int), 0, 0⟩, .int .i64 (k : Int)] W fun e w' => ∃ v, e = .returned .nilIface ∧ LF w' p t g cap (xs.set i ⟨x.f0, x.f1, v, T1⟩) ∧ Chg (fun k => k = g) W w')) (HII : Hid (∀ v, LI (xs.set i ⟨x.f0, x.f1, v, T1⟩) used gone (k + 1)))
    (hK : Hid (∀ (ys : List Sk) (W : World) (n176 n177 n178 n179 n180 n181 n182 n183 n184 n185 n186 n187 n188 n189 n190 n191 n192 n193 n194 n195 n196 n197 n198 n199 : Value), LI ys used gone (k + 1) → LF W p t g cap ys → Below w.heap.size w W → K ⟨#[.slice (some ⟨b, o, none⟩) n c, x1, x2, .pointer (some ⟨p, 0, none⟩), x4, x5, .int .i64 (k : Int), x7, x8, x9, x10, x11, x12, x13, x14, x15, x16, x17, .int .i64 hh, x19, x20, x21, x22, x23, x24, x25, x26, x27, x28, x29, x30, x31, x32, x33, x34, x35, x36, x37, x38, x39, x40, x41, x42, x43, x44, x45, x46, x47, x48, x49, x50, x51, x52, x53, x54, x55, x56, x57, x58, x59, x60, x61, x62, x63, x64, x65, x66, x67, x68, x69, x70, x71, x72, x73, x74, x75, x76, x77, x78, x79, x80, x81, x82, x83, x84, x85, x86, x87, x88, x89, x90, x91, x92, x93, x94, x95, x96, x97, x98, x99, x100, x101, x102, x103, x104, x105, x106, x107, x108, x109, x110, x111, x112, x113, x114, x115, x116, x117, x118, x119, x120, x121, x122, x123, x124, x125, x126, x127, x128, x129, x130, x131, x132, x133, x134, x135, x136, x137, x138, x139, x140, x141, x142, x143, x144, x145, x146, x147, x148, x149, x150, x151, x152, x153, x154, x155, x156, x157, x158, x159, x160, x161, x162, x163, x164, x165, x166, x167, x168, x169, x170, x171, x172, x173, x174, x175, n176, n177, n178, n179, n180, n181, n182, n183, n184, n185, n186, n187, n188, n189, n190, n191, n192, n193, n194, n195, n196, n197, n198, n199, x200, x201, x202, x203, x204, x205, x206, x207, x208, x209, x210, x211, x212, x213, x214, x215, x216, x217, x218, x219, x220, x221, x222, x223, x224, x225, x226, x227, x228], []⟩ W)) :
    Code.wp Try.prog (regU 32) (Exit.inBlock 1 (Exit.then K Q)) ⟨#[.slice (some ⟨b, o, none⟩) n c, x1, x2, .pointer (some ⟨p, 0, none⟩), x4, x5, .int .i64 (k : Int), x7, x8, x9, x10, x11, x12, x13, x14, x15, x16, x17, .int .i64 hh, x19, x20, x21, x22, x23, x24, x25, x26, x27, x28, x29, x30, x31, x32, x33, x34, x35, x36, x37, x38, x39, x40, x41, x42, x43, x44, x45, x46, x47, x48, x49, x50, x51, x52, x53, x54, x55, x56, x57, x58, x59, x60, x61, x62, x63, x64, x65, x66, x67, x68, x69, x70, x71, x72, x73, x74, x75, x76, x77, x78, x79, x80, x81, x82, x83, x84, x85, x86, x87, x88, x89, x90, x91, x92, x93, x94, x95, x96, x97, x98, x99, x100, x101, x102, x103, x104, x105, x106, x107, x108, x109, x110, x111, x112, x113, x114, x115, x116, x117, x118, x119, x120, x121, x122, x123, x124, x125, x126, x127, x128, x129, x130, x131, x132, x133, x134, x135, x136, x137, x138, x139, x140, x141, x142, x143, x144, x145, x146, x147, x148, x149, x150, x151, x152, x153, x154, x155, x156, x157, x158, x159, x160, x161, x162, x163, x164, x165, x166, x167, x168, x169, x170, x171, x172, x173, x174, x175, x176, x177, x178, x179, x180, x181, x182, x183, x184, x185, x186, x187, x188, x189, x190, x191, x192, x193, x194, x195, x196, x197, x198, x199, x200, x201, x202, x203, x204, x205, x206, x207, x208, x209, x210, x211, x212, x213, x214, x215, x216, x217, x218, x219, x220, x221, x222, x223, x224, x225, x226, x227, x228], []⟩ w2 := by
  have hlb : b < w2.heap.size := World.block_lt_of_cell? w2 _ c3'
  refine wp_in1 ?_
  dsimp only
  conv => arg 2; whnf
  first | go_loud (go_region_law (first
    | (go_simp; go_at_call 11; refine (HPS.out _ (by first | exact Below.refl _ _ | exact below_drewN' (Below.refl _ _) 1)).mono ?_; rintro e w3 ⟨v3, rfl, hL3, hc3⟩; have HL3 := Lib.hid hL3; have HC3 := Lib.hid ((Chg.refl (fun k => k = g) w2).trans (Chg.trans (by first | exact Chg.refl _ _ | exact Chg.drewN (Chg.refl _ _) 1) hc3)); clear hL3 hc3))) | fail
  all_goals
    have HB3 := Lib.hid (HB2.out.trans (chg_base HC3.out HB2.out.size HG.out))
    go_wp2_with fail
    exact hK.out _ _ _ _ _ _ _ _ _ _ _ _ _ _ _ _ _ _ _ _ _ _ _ _ _ _ (HII.out v3) HL3.out HB3.out

set_option maxHeartbeats 8000000 in
theorem reg32b {x1 x2 x4 x5 x7 x8 x9 x10 x11 x12 x13 x14 x15 x16 x17 x19 x20 x21 x22 x23 x24 x25 x26 x27 x28 x29 x30 x31 x32 x33 x34 x35 x36 x37 x38 x39 x40 x41 x42 x43 x44 x45 x46 x47 x48 x49 x50 x51 x52 x53 x54 x55 x56 x57 x58 x59 x60 x61 x62 x63 x64 x65 x66 x67 x68 x69 x70 x71 x72 x73 x74 x75 x76 x77 x78 x79 x80 x81 x82 x83 x84 x85 x86 x87 x88 x89 x90 x91 x92 x93 x94 x95 x96 x97 x98 x99 x100 x101 x102 x103 x104 x105 x106 x107 x108 x109 x110 x111 x112 x113 x114 x115 x116 x117 x118 x119 x120 x121 x122 x123 x124 x125 x126 x127 x128 x129 x130 x131 x132 x133 x134 x135 x136 x137 x138 x139 x140 x141 x142 x143 x144 x145 x146 x147 x148 x149 x150 x151 x152 x153 x154 x155 x156 x157 x158 x159 x160 x161 x162 x163 x164 x165 x166 x167 x168 x169 x170 x171 x172 x173 x174 x175 x176 x177 x178 x179 x180 x181 x182 x183 x184 x185 x186 x187 x188 x189 x190 x191 x192 x193 x194 x195 x196 x197 x198 x199 x200 x201 x202 x203 x204 x205 x206 x207 x208 x209 x210 x211 x212 x213 x214 x215 x216 x217 x218 x219 x220 x221 x222 x223 x224 x225 x226 x227 x228 : Value} {w w2 : World} {p t g cap b o n c k i r5 r4 : Nat} {xs : List Sk} {x : Sk} {T1 : Tk} {hh f0 f1 used gone E : Int} {K : Act → World → Prop} {Q : Exit → Act → World → Prop} (hlt : k < n) (hn : n ≤ 9223372036854775807) (c3' : w2.cell? ⟨b, o + k * 7 + 3, none⟩ = some (.int .i64 f0)) (c4' : w2.cell? ⟨b, o + k * 7 + 4, none⟩ = some (.int .i64 f1)) (hr5' : IntKind.i64.wrap ((IntKind.u64.wrap f0).tmod 5) = (r5 : Int)) (hr4' : IntKind.i64.wrap ((IntKind.u64.wrap f1).tmod 4) = (r4 : Int)) (hs5 : IntKind.i64.wrap (1 + (r5 : Int)) = 1 + (r5 : Int)) (hr5 : wrap64 ((IntKind.u64.wrap f0).tmod 5) = (r5 : Int)) (hr4 : wrap64 ((IntKind.u64.wrap f1).tmod 4) = (r4 : Int)) (hrb : (r5 : Int) < 5 ∧ (r4 : Int) < 4) (HL2 : Hid (LF w2 p t g cap xs)) (HB2 : Hid (Below w.heap.size w w2)) (HG : Hid (w.heap.size ≤ g)) (hI : Hid (LI xs used gone k)) (hub : 0 ≤ used ∧ used ≤ 200) (hgb : 0 ≤ gone ∧ gone ≤ 200) (HPS : Hid (∀ W, Below w2.heap.size w2 W → Calls Try.prog 11 #[.pointer (some ⟨p, 0, none⟩), .int .i64 hh, jv ⟨1 + (r5 : Int), (r4 : Int), 0, 0⟩, .int .i64 (k : Int)] W fun e w' => e = .returned (.iface 68 (.int .i64 E)) ∧ Below W.heap.size W w'))
    (hK : Hid (∀ (ys : List Sk) (W : World) (n176 n177 n178 n179 n180 n181 n182 n183 n184 n185 n186 n187 n188 n189 n190 n191 n192 n193 n194 n195 n196 n197 n198 n199 : Value), LI ys used gone (k + 1) → LF W p t g cap ys → Below w.heap.size w W → K ⟨#[.slice (some ⟨b, o, none⟩) n c, x1, x2, .pointer (some ⟨p, 0, none⟩), x4, x5, .int .i64 (k : Int), x7, x8, x9, x10, x11, x12, x13, x14, x15, x16, x17, .int .i64 hh, x19, x20, x21, x22, x23, x24, x25, x26, x27, x28, x29, x30, x31, x32, x33, x34, x35, x36, x37, x38, x39, x40, x41, x42, x43, x44, x45, x46, x47, x48, x49, x50, x51, x52, x53, x54, x55, x56, x57, x58, x59, x60, x61, x62, x63, x64, x65, x66, x67, x68, x69, x70, x71, x72, x73, x74, x75, x76, x77, x78, x79, x80, x81, x82, x83, x84, x85, x86, x87, x88, x89, x90, x91, x92, x93, x94, x95, x96, x97, x98, x99, x100, x101, x102, x103, x104, x105, x106, x107, x108, x109, x110, x111, x112, x113, x114, x115, x116, x117, x118, x119, x120, x121, x122, x123, x124, x125, x126, x127, x128, x129, x130, x131, x132, x133, x134, x135, x136, x137, x138, x139, x140, x141, x142, x143, x144, x145, x146, x147, x148, x149, x150, x151, x152, x153, x154, x155, x156, x157, x158, x159, x160, x161, x162, x163, x164, x165, x166, x167, x168, x169, x170, x171, x172, x173, x174, x175, n176, n177, n178, n179, n180, n181, n182, n183, n184, n185, n186, n187, n188, n189, n190, n191, n192, n193, n194, n195, n196, n197, n198, n199, x200, x201, x202, x203, x204, x205, x206, x207, x208, x209, x210, x211, x212, x213, x214, x215, x216, x217, x218, x219, x220, x221, x222, x223, x224, x225, x226, x227, x228], []⟩ W)) :
    Code.wp Try.prog (regU 32) (Exit.inBlock 1 (Exit.then K Q)) ⟨#[.slice (some ⟨b, o, none⟩) n c, x1, x2, .pointer (some ⟨p, 0, none⟩), x4, x5, .int .i64 (k : Int), x7, x8, x9, x10, x11, x12, x13, x14, x15, x16, x17, .int .i64 hh, x19, x20, x21, x22, x23, x24, x25, x26, x27, x28, x29, x30, x31, x32, x33, x34, x35, x36, x37, x38, x39, x40, x41, x42, x43, x44, x45, x46, x47, x48, x49, x50, x51, x52, x53, x54, x55, x56, x57, x58, x59, x60, x61, x62, x63, x64, x65, x66, x67, x68, x69, x70, x71, x72, x73, x74, x75, x76, x77, x78, x79, x80, x81, x82, x83, x84, x85, x86, x87, x88, x89, x90, x91, x92, x93, x94, x95, x96, x97, x98, x99, x100, x101, x102, x103, x104, x105, x106, x107, x108, x109, x110, x111, x112, x113, x114, x115, x116, x117, x118, x119, x120, x121, x122, x123, x124, x125, x126, x127, x128, x129, x130, x131, x132, x133, x134, x135, x136, x137, x138, x139, x140, x141, x142, x143, x144, x145, x146, x147, x148, x149, x150, x151, x152, x153, x154, x155, x156, x157, x158, x159, x160, x161, x162, x163, x164, x165, x166, x167, x168, x169, x170, x171, x172, x173, x174, x175, x176, x177, x178, x179, x180, x181, x182, x183, x184, x185, x186, x187, x188, x189, x190, x191, x192, x193, x194, x195, x196, x197, x198, x199, x200, x201, x202, x203, x204, x205, x206, x207, x208, x209, x210, x211, x212, x213, x214, x215, x216, x217, x218, x219, x220, x221, x222, x223, x224, x225, x226, x227, x228], []⟩ w2 := by
  have hlb : b < w2.heap.size := World.block_lt_of_cell? w2 _ c3'
  refine wp_in1 ?_
  dsimp only
  conv => arg 2; whnf
  first | go_loud (go_region_law (first
    | (go_simp; go_at_call 11; refine (HPS.out _ (by first | exact Below.refl _ _ | exact below_drewN' (Below.refl _ _) 1)).mono ?_; rintro e w3 ⟨rfl, hb3⟩; have HB23 := Lib.hid (below_call (B := w2.heap.size) (by first | exact Below.refl _ _ | exact below_drewN' (Below.refl _ _) 1) (Nat.le_refl _) hb3); clear hb3))) | fail
  all_goals
    have HL3 := Lib.hid (HL2.out.below HB23.out)
    have HB3 := Lib.hid (below_call HB2.out (Nat.le_refl _) HB23.out)
    go_wp2_with fail
    exact hK.out xs _ _ _ _ _ _ _ _ _ _ _ _ _ _ _ _ _ _ _ _ _ _ _ _ _ hI.out.next HL3.out HB3.out

end Go.Proofs.Ytkfjlkpickeobaa
