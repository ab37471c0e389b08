/- FifoTwins: the return. -/
import Derived.Deep.RegionWith
import Derived.Shelf.RegionOpenPlain
import Derived.Test.YtahaclglkbgpcaaFqT5
set_option linter.unusedVariables false
set_option linter.unusedSimpArgs false
namespace Go.Proofs.Ytahaclglkbgpcaa
open Go.RowKit Go.Shelf
set_option maxRecDepth 100000
attribute [local go_sem] Oper.semAt_some

/-- A postcondition that no panic meets. -/
def calm (Q : Exit → Act → World → Prop) : Exit → Act → World → Prop := fun e a w => match e with
  | .panic _ => False
  | .outgrown => False
  | .normal => Q .normal a w
  | .ret => Q .ret a w
  | .exit i => Q (.exit i) a w
  | .goto i => Q (.goto i) a w
theorem wp_calm {P : Program} {c : Code} {Q : Exit → Act → World → Prop} {a : Act} {w : World} (h : c.wp P (calm Q) a w) : c.wp P Q a w := by
  refine Code.wp_mono ?_ h
  intro e a1 w1 h1
  cases e with
  | panic ch => exact h1.elim
  | outgrown => exact h1.elim
  | _ => exact h1
/-- The same, where what follows is a letter. -/
theorem wp_calm2 {P : Program} {c : Code} {K : Act → World → Prop} {Q : Exit → Act → World → Prop} {a : Act} {w : World} (h : c.wp P (Exit.then K (fun _ _ _ => False)) a w) : c.wp P (Exit.then K Q) a w := by
  refine Code.wp_mono ?_ h
  intro e a1 w1 h1
  cases e with
  | normal => exact h1
  | _ => exact h1.elim

def findReg (n : Nat) : Code → Option Code
  | .region k ops d => if k == n then some (.region k ops d) else none
  | .loop c => findReg n c
  | .seq a b => match findReg n a with
    | some c => some c
    | none => findReg n b
  | .block _ c => findReg n c
  | .scope c => findReg n c
  | .cond _ a b => match findReg n a with
    | some c => some c
    | none => findReg n b
  | _ => none
def lastReg : Code → Option Code
  | .region k ops d => some (.region k ops d)
  | .seq a b => match lastReg b with
    | some c => some c
    | none => lastReg a
  | .block _ c => lastReg c
  | .scope c => lastReg c
  | _ => none
noncomputable def retC : Code := ((Try.f4.body.bind lastReg).getD .skip)

set_option maxHeartbeats 4000000 in
theorem twins_ret {x1 x2 x6 x7 x8 x10 x12 x13 x14 x15 x16 x17 x18 x19 x20 x21 x22 x23 x24 x25 x26 x27 x28 x29 x30 x31 x32 x33 x34 x35 x36 x37 x38 x39 x40 x41 x42 x43 x44 x45 x46 x47 x48 x49 x50 x51 x52 x53 x54 x55 x56 x57 x58 x59 x60 x61 x62 x63 x64 x65 x66 x67 x68 x69 x70 x71 x72 x73 x74 x75 x76 x77 x78 x79 x80 x81 x82 x83 x84 x85 x86 x87 x88 x89 x90 x91 x92 x93 x94 x95 x96 x97 x98 x99 x100 x101 x102 x103 x104 x105 x106 x107 x108 x109 x110 x111 x112 x113 x114 x115 x116 x117 x118 x119 x120 x121 x122 x123 x124 x125 x126 x127 x128 x129 x130 x131 x132 x133 x134 x135 x136 x137 x138 x139 : Value} {v x : Int} {w : World} {q qb lim mb Bs j g9 c9 cap D : Nat} {a : Option Addr} {vs : List Value} {W : World} {K : Act → World → Prop} {Q : Exit → Act → World → Prop} {xs : List (Nat × Int)} (hj : j ≤ 100) (hx : xs.length = j + 2) (hv : vs.length = j + 1) (h : TJ v x w q qb lim vs mb Bs xs W) (hD : W.heap[D]? = some (.deferred (some [])))
    (hK : Hid (∀ (W' : World), W'.cell? ⟨w.heap.size + 1, 0, none⟩ = some (.bool true) → Below w.heap.size w W' → W'.heap[D]? = some (.deferred (some [])) → ∀ (n118 n119 n120 n121 n122 n123 n124 n125 n126 n127 n128 n129 n130 n131 n132 n133 n134 n135 n136 n137 n138 n139 : Value), K { tmps := #[.slice a j cap, x1, x2, .pointer (some ⟨w.heap.size, 0, none⟩), .pointer (some ⟨w.heap.size + 1, 0, none⟩), .pointer (some ⟨qb, 0, none⟩), x6, x7, x8, .slice (some ⟨g9, 0, none⟩) (j + 2) c9, x10, .pointer (some ⟨mb, 0, none⟩), x12, x13, x14, x15, x16, x17, x18, x19, x20, x21, x22, x23, x24, x25, x26, x27, x28, x29, x30, x31, x32, x33, x34, x35, x36, x37, x38, x39, x40, x41, x42, x43, x44, x45, x46, x47, x48, x49, x50, x51, x52, x53, x54, x55, x56, x57, x58, x59, x60, x61, x62, x63, x64, x65, x66, x67, x68, x69, x70, x71, x72, x73, x74, x75, x76, x77, x78, x79, x80, x81, x82, x83, x84, x85, x86, x87, x88, x89, x90, x91, x92, x93, x94, x95, x96, x97, x98, x99, x100, x101, x102, x103, x104, x105, x106, x107, x108, x109, x110, x111, x112, x113, x114, x115, x116, x117, n118, n119, n120, n121, n122, n123, n124, n125, n126, n127, n128, n129, n130, n131, n132, n133, n134, n135, n136, n137, n138, n139], defers := [{ target := .collected D, args := #[] }] } W')) :
    retC.wp Try.prog (Exit.then K Q) ⟨#[.slice a j cap, x1, x2, .pointer (some ⟨w.heap.size, 0, none⟩), .pointer (some ⟨w.heap.size + 1, 0, none⟩), .pointer (some ⟨qb, 0, none⟩), x6, x7, x8, .slice (some ⟨g9, 0, none⟩) (j + 2) c9, x10, .pointer (some ⟨mb, 0, none⟩), x12, x13, x14, x15, x16, x17, x18, x19, x20, x21, x22, x23, x24, x25, x26, x27, x28, x29, x30, x31, x32, x33, x34, x35, x36, x37, x38, x39, x40, x41, x42, x43, x44, x45, x46, x47, x48, x49, x50, x51, x52, x53, x54, x55, x56, x57, x58, x59, x60, x61, x62, x63, x64, x65, x66, x67, x68, x69, x70, x71, x72, x73, x74, x75, x76, x77, x78, x79, x80, x81, x82, x83, x84, x85, x86, x87, x88, x89, x90, x91, x92, x93, x94, x95, x96, x97, x98, x99, x100, x101, x102, x103, x104, x105, x106, x107, x108, x109, x110, x111, x112, x113, x114, x115, x116, x117, x118, x119, x120, x121, x122, x123, x124, x125, x126, x127, x128, x129, x130, x131, x132, x133, x134, x135, x136, x137, x138, x139], [{ target := .collected D, args := #[] }]⟩ W := by
  conv => arg 2; whnf
  dsimp only
  have hr := h.tw.hr
  have hDr : w.heap.size + 1 ≠ D := fun e => by rw [e, hD] at hr; simp at hr
  have cm : W.cell? ⟨mb, 0, none⟩ = some (.int .i64 ((j : Int) + 2)) := by simp [World.cell?, h.met, hx]
  have cq := h.tw.cq
  have hlb : (behind vs x xs).length = j + 2 := by unfold behind; rw [if_neg (by omega)]; simp [hv]
  have L : ∀ W2 : World, TW v w q qb lim (behind vs x xs) W2 → Calls Try.prog 12 #[.pointer (some ⟨q, 0, none⟩)] W2 fun e W' => e = .returned (.int .i64 ((j : Int) + 2)) ∧ W2 = W' := fun W2 T => by
    have := T.len
    rw [hlb] at this
    exact this
  have HL := Lib.hid L
  have HT := Lib.hid h.tw
  have HD := Lib.hid hD
  have HDr := Lib.hid hDr
  have hwr : IntKind.i64.wrap ((j : Int) + 2) = (j : Int) + 2 := by simp [IntKind.wrap, IntKind.bits, IntKind.signed]; omega
  clear L h hD hr hlb hx hv hDr
  have mixed : Try.prog.follows Departure.mixedOrders = true := by kernel_rfl
  refine wp_calm2 ?_
  first
    | go_region_with_o (first
        | (go_at_call 12; refine (HL.out _ (by first | with_reducible exact HT.out | with_reducible exact HT.out.drew1)).mono ?_; rintro e w' ⟨rfl, rfl⟩)
        | (go_at_call 15; refine (works_ok _).mono ?_; rintro e w3 ⟨rfl, hb⟩; have HT3 := Lib.hid (HT.out.drew1.call hb); have cr := HT3.out.cr; have fr := HT3.out.fr; have HD3 := Lib.hid (blk_below hb HD.out); clear hb))
    | fail
  all_goals (go_wp2_with fail)
  all_goals exact hK.out _ (World.cell?_setCell_same' _ _ _ (by rw [HT3.out.cr]; rfl)) (HT3.out.below.setCell (p := ⟨w.heap.size + 1, 0, none⟩) (by simp) _) (by rw [heap_setCell_other _ _ _ _ (fun e => HDr.out (by first | exact e | exact e.symm))]; exact HD3.out) _ _ _ _ _ _ _ _ _ _ _ _ _ _ _ _ _ _ _ _ _ _
end Go.Proofs.Ytahaclglkbgpcaa
