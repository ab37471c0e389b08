/- Of the text TO2 only what this claim needs (shake.py, this repo's). -/
import Derived.Test.YtgjlkplieoajlaaZTO0
set_option linter.unusedVariables false
set_option linter.unusedSimpArgs false
namespace Go.Proofs.Ytgjlkplieoajlaa
open Go.RowKit
open Go.Proofs.YtgjlkplieoajlaaW.PrintWords (Kd Drawn0 Kept rd rdOf)
open Go.Proofs.Ytgjlkplieoajlaa.PTreeWhole
set_option maxRecDepth 100000

def findReg (n : Nat) : Code → Option Code
  | .region k ops d => if k == n then some (.region k ops d) else none
  | .loop c => findReg n c
  | .seq a b => match findReg n a with
    | some c => some c
    | none => findReg n b
  | .block _ c => findReg n c
  | .scope c => findReg n c
  | .cond _ a b => match findReg n a with
    | some c => some c
    | none => findReg n b
  | _ => none
noncomputable def regO (n : Nat) : Code := ((Try.f3.body.bind (findReg n)).getD .skip)
theorem wp_then0 {P : Program} {c : Code} {K : Act → World → Prop} {Q : Exit → Act → World → Prop} {a : Act} {w : World} (h : c.wp P (Exit.then K (fun _ _ _ => False)) a w) : c.wp P (Exit.then K Q) a w := by
  refine Code.wp_mono ?_ h
  intro e a1 w1 h1
  cases e with
  | normal => exact h1
  | _ => exact h1.elim
set_option maxHeartbeats 1000000 in
theorem reg29 {x0 x1 x2 x4 x5 x6 x8 x9 x10 x11 x13 x14 x15 x16 x18 x20 x21 x22 x23 x24 x25 x26 x27 x28 x29 x30 x31 x32 x33 x34 x35 x36 x37 x38 x39 x40 x41 x42 x43 x44 x45 x46 x47 x48 x49 x50 x51 x52 x53 x54 x55 x56 x57 x58 x59 x60 x61 x62 x63 x64 x65 x66 x67 x68 x69 x70 x71 x72 x73 x74 x75 x76 x77 x78 x79 x80 x81 x82 x83 x84 x85 x86 x87 x88 x89 x90 x91 x92 x93 x94 x95 x96 x97 x98 x99 x100 x101 x102 x103 x104 x105 x106 x107 x108 x109 x110 x111 x112 x113 x114 x115 x116 x117 x118 x119 x120 x121 x122 x123 x124 x125 x126 x127 x128 x129 x130 x131 x132 x133 x134 x135 x136 x137 x138 x139 x140 x141 x142 x143 x144 x145 : Value} {w8 : World} {q t g cap nL nK g8 c2 c5 c7 c8 lo2 hi2 lo5 hi5 lo7 hi7 lo8 hi8 : Nat} {A2 A5 A7 : Option Addr} {xs : List Nk} {dep : Nat → Nat} {r : Int} {K : Act → World → Prop} {Q : Exit → Act → World → Prop}
    (hI : TI xs dep) (HT8 : Hid (TRE w8 q t g cap xs)) (HRT : Hid (r = rootH)) (HLL : Hid (nL = (walkF xs 8 rootH).length)) (HKL : Hid (nK = (kidsF xs r).length)) (hlL' : nL ≤ 64) (hkL' : nK ≤ 64)
    (RB28 : Hid (RB w8 (.slice A2 nL c2) (walkF xs 8 rootH) lo2 hi2)) (RB58 : Hid (RB w8 (.slice A5 nK c5) (kidsF xs r) lo5 hi5)) (RB78 : Hid (RB w8 (.slice A7 nK c7) (kidsF xs r) lo7 hi7)) (RB88 : Hid (RB w8 (.slice (some ⟨g8, 0, none⟩) 1 c8) [r] lo8 hi8))
    (hK : Hid (∀ (W : World) (n121 n122 n123 n124 n125 n126 n127 n128 n129 n130 n131 n132 n133 n134 n135 n136 n137 n138 n139 n140 n141 n142 n143 n144 n145 : Value), Below w8.heap.size w8 W → K ⟨#[x0, x1, .bool true, .pointer (some ⟨q, 0, none⟩), x4, x5, x6, .slice A2 nL c2, x8, x9, x10, x11, .slice A5 nK c5, x13, x14, x15, x16, .slice A7 nK c7, x18, .slice (some ⟨g8, 0, none⟩) 1 c8, x20, x21, x22, x23, x24, x25, x26, x27, x28, x29, x30, x31, x32, x33, x34, x35, x36, x37, x38, x39, x40, x41, x42, x43, x44, x45, x46, x47, x48, x49, x50, x51, x52, x53, x54, x55, x56, x57, x58, x59, x60, x61, x62, x63, x64, x65, x66, x67, x68, x69, x70, x71, x72, x73, x74, x75, x76, x77, x78, x79, x80, x81, x82, x83, x84, x85, x86, x87, x88, x89, x90, x91, x92, x93, x94, x95, x96, x97, x98, x99, x100, x101, x102, x103, x104, x105, x106, x107, x108, x109, x110, x111, x112, x113, x114, x115, x116, x117, x118, x119, x120, n121, n122, n123, n124, n125, n126, n127, n128, n129, n130, n131, n132, n133, n134, n135, n136, n137, n138, n139, n140, n141, n142, n143, n144, n145], []⟩ W)) :
    Code.wp Try.prog (regO 29) (Exit.then K Q) ⟨#[x0, x1, x2, .pointer (some ⟨q, 0, none⟩), x4, x5, x6, .slice A2 nL c2, x8, x9, x10, x11, .slice A5 nK c5, x13, x14, x15, x16, .slice A7 nK c7, x18, .slice (some ⟨g8, 0, none⟩) 1 c8, x20, x21, x22, x23, x24, x25, x26, x27, x28, x29, x30, x31, x32, x33, x34, x35, x36, x37, x38, x39, x40, x41, x42, x43, x44, x45, x46, x47, x48, x49, x50, x51, x52, x53, x54, x55, x56, x57, x58, x59, x60, x61, x62, x63, x64, x65, x66, x67, x68, x69, x70, x71, x72, x73, x74, x75, x76, x77, x78, x79, x80, x81, x82, x83, x84, x85, x86, x87, x88, x89, x90, x91, x92, x93, x94, x95, x96, x97, x98, x99, x100, x101, x102, x103, x104, x105, x106, x107, x108, x109, x110, x111, x112, x113, x114, x115, x116, x117, x118, x119, x120, x121, x122, x123, x124, x125, x126, x127, x128, x129, x130, x131, x132, x133, x134, x135, x136, x137, x138, x139, x140, x141, x142, x143, x144, x145], []⟩ w8 := by
  have HAL := Lib.hid (fun W (hB : Below w8.heap.size w8 W) => tall_any hI q t g cap W (HT8.out.below hB))
  have SB := Lib.hid (fun W (hB : Below w8.heap.size w8 W) => same_yes _ _ _ W (RB58.out.below hB).rd (RB78.out.below hB).rd (by have := HKL.out; omega))
  have HRO := Lib.hid (fun W (hB : Below w8.heap.size w8 W) => (troot_ok q t g cap xs W (HT8.out.below hB)).mono (R' := fun e w' => e = .returned (.int .i64 r) ∧ Below W.heap.size W w') (by rintro e w' ⟨rfl, rfl⟩; exact ⟨by rw [HRT.out], Below.refl _ _⟩))
  have HQ8 : Hid (∀ W, Below w8.heap.size w8 W → W.cell? ⟨g8, 0, none⟩ = some (.int .i64 r)) := Lib.hid (fun W hB => by
    obtain ⟨gx, ex, hcx⟩ := (RB88.out.below hB).rd.at (i := 0) (x := r) rfl
    simp only [Option.some.injEq, Addr.mk.injEq, and_true] at ex
    subst ex
    exact hcx)
  clear RB58 RB78 RB88 hI HT8
  refine wp_then0 ?_
  dsimp only
  conv => arg 2; whnf
  have hc8 := HQ8.out w8 (Below.refl _ _)
  have hb8 : Below w8.heap.size w8 w8 := Below.refl _ _
  go_region_held3 (fun w' => w'.cell? ⟨g8, 0, none⟩ = some (.int .i64 r) ∧ Below w8.heap.size w8 w')
    (first
      | (go_split_ands; exact ⟨HQ8.out _ (below_call (by assumption) (Nat.le_refl _) hb), below_call (by assumption) (Nat.le_refl _) hb⟩)
      | (go_split_ands; exact ⟨HQ8.out _ (below_drewN' (by assumption) 1), below_drewN' (by assumption) 1⟩))
    (first
      | (go_at_call 6; go_split_ands; refine (HAL.out _ (by assumption)).mono ?_; rintro e w9 ⟨v9, rfl, hR9, hb⟩; have HB89 := Lib.hid (below_call (B := w8.heap.size) (by assumption) (Nat.le_refl _) hb); have RB99 := Lib.hid (RH.rb hR9); obtain ⟨A9, c9, rfl⟩ := Kd.R_slice hR9; rw [← HLL.out] at RB99 ⊢; have SA := Lib.hid (fun W (hB : Below w9.heap.size w9 W) => same_yes _ _ _ W (RB99.out.below hB).rd ((RB28.out.below HB89.out).below hB).rd (by have := HLL.out; omega)); clear hR9)
      | (go_at_call 11; go_split_ands; with_reducible refine (SA.out _ (by first | exact Below.refl _ _ | exact below_drewN' (Below.refl _ _) 1)).mono ?_; rintro e wa ⟨rfl, hb⟩)
      | (go_at_call 11; go_split_ands; with_reducible refine (SB.out _ (by assumption)).mono ?_; rintro e wb ⟨rfl, hb⟩)
      | (go_at_call 9; go_split_ands; refine (HRO.out _ (by assumption)).mono ?_; rintro e we ⟨rfl, hb⟩)
      | (go_at_call 12; go_split_ands; refine (sure09_ok _).mono ?_; rintro e wc ⟨rfl, hb⟩))
  all_goals
    go_split_ands
    go_wp2_with fail
    exact hK.out _ _ _ _ _ _ _ _ _ _ _ _ _ _ _ _ _ _ _ _ _ _ _ _ _ _ (by assumption)

end Go.Proofs.Ytgjlkplieoajlaa
