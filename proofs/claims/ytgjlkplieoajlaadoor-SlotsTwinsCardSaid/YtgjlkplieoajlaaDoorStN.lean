/- The regions of SlotsTwins' last loop -/
import Derived.Test.YtgjlkplieoajlaaDoorStM
import Derived.Deep.RegionWith
set_option linter.unusedVariables false
set_option linter.unusedSimpArgs false
namespace Go.Proofs.YtgjlkplieoajlaaDoor
open Go.RowKit
open Go.Proofs.YtgjlkplieoajlaaDoorW.PrintWords (Kd Drawn0 Kept rd rdOf)
open Go.Proofs.YtgjlkplieoajlaaDoor.PSlotsTwins
set_option maxRecDepth 1000000

def findReg (n : Nat) : Code → Option Code
  | .region k ops d => if k == n then some (.region k ops d) else none
  | .loop c => findReg n c
  | .seq a b => match findReg n a with
    | some c => some c
    | none => findReg n b
  | .block _ c => findReg n c
  | .scope c => findReg n c
  | .cond _ a b => match findReg n a with
    | some c => some c
    | none => findReg n b
  | _ => none
noncomputable def regT (n : Nat) : Code := ((Tryd.f7.body.bind (findReg n)).getD .skip)
def retPost (Q1 : Act → World → Prop) : Exit → Act → World → Prop := fun e a w => match e with
  | .ret => Q1 a w
  | _ => False
theorem wp_normal {P : Program} {c : Code} {K : Act → World → Prop} {Q : Exit → Act → World → Prop} {a : Act} {w : World} (h : c.wp P (Exit.then K (retPost fun _ _ => False)) a w) : c.wp P (Exit.then K Q) a w := by
  refine Code.wp_mono ?_ h
  intro e a1 w1 h1
  cases e with
  | normal => exact h1
  | ret => exact h1.elim
  | _ => exact h1.elim
end Go.Proofs.YtgjlkplieoajlaaDoor

set_option linter.unusedVariables false
set_option linter.unusedSimpArgs false
namespace Go.Proofs.YtgjlkplieoajlaaDoor
open Go.RowKit
open Go.Proofs.YtgjlkplieoajlaaDoorW.PrintWords (Kd Drawn0 Kept rd rdOf)
open Go.Proofs.YtgjlkplieoajlaaDoor.PSlotsTwins
set_option maxRecDepth 1000000

set_option maxHeartbeats 20000000 in
theorem reg25 {x0 x1 x3 x4 x5 x6 x7 x8 x9 x10 x11 x13 x14 x15 x16 x17 x18 x19 x20 x21 x23 x25 x26 x27 x28 x29 x30 x31 x32 x33 x34 x35 x36 x37 x38 x39 x40 x41 x42 x43 x44 x45 x46 x47 x48 x49 x50 x51 x52 x53 x54 x55 x56 x57 x58 x59 x60 x61 x62 x63 x64 x65 x66 x67 x68 x69 x70 x71 x72 x73 x74 x75 x76 x77 x78 x79 x80 x81 x82 x83 x84 x85 x86 x87 x88 x89 x90 x91 x92 x93 x94 x95 x96 x97 x98 x99 x100 x101 x102 x103 x104 x105 x106 x107 x108 x109 x110 x111 x112 x113 x114 x115 x116 x117 x118 x119 x120 x121 x122 x123 x124 x125 x126 x127 x128 x129 x130 x131 x132 x133 x134 x135 x136 x137 x138 x139 x140 x141 x142 x143 x144 x145 x146 x147 x148 x149 x150 x151 x152 x153 x154 x155 x156 x157 x158 x159 x160 x161 x162 x163 x164 x165 x166 x167 x168 x169 x170 x171 x172 x173 x174 x175 x176 : Value} {wr : World} {w : World} {B n t g cap t2 g2 cap2 t3 g3 cap3 rb b2 b3 lb lo mlen mcap k : Nat} {R Q2 Q3 Q2' Q3' : Rw} {kd h v : Int} {K : Act → World → Prop} {Q : Exit → Act → World → Prop} (hm2 : mlen ≤ 2 ^ 63 - 1) (hlt : k < mlen) (q0 : wr.cell? ⟨lb, lo + k * 3, none⟩ = some (.int .i64 kd)) (q1 : wr.cell? ⟨lb, lo + k * 3 + 1, none⟩ = some (.int .i64 h)) (q2 : wr.cell? ⟨lb, lo + k * 3 + 2, none⟩ = some (.int .i64 v)) (HDS : Hid (Ds w.heap.size t g t2 g2 t3 g3 rb b2 b3)) (HM : Hid (M3 w wr B n t g cap t2 g2 cap2 t3 g3 cap3 rb b2 b3 R Q2 Q2 Q3 Q3))
    (hK : Hid (∀ (p : Nat) (W : World) (Q' : Rw) (n133 n134 n135 n136 n137 n138 n139 n140 n141 n142 : Value), M3 w W B n t g cap t2 g2 cap2 t3 g3 cap3 rb b2 b3 R Q' Q2 Q3 Q3 → VTw W p n Q' → wr.heap.size ≤ p → K ⟨#[x0, x1, .slice (some ⟨lb, lo, none⟩) mlen mcap, x3, x4, x5, x6, x7, x8, x9, x10, x11, .pointer (some ⟨t2, 0, none⟩), x13, x14, x15, x16, x17, x18, x19, x20, x21, .pointer (some ⟨b2, 0, none⟩), x23, .int .i64 (k : Int), .pointer (some ⟨p, 0, none⟩), .bool true, x27, x28, x29, x30, x31, x32, x33, x34, x35, x36, x37, x38, x39, x40, x41, x42, x43, x44, x45, x46, x47, x48, x49, x50, x51, x52, x53, x54, x55, x56, x57, x58, x59, x60, x61, x62, x63, x64, x65, x66, x67, x68, x69, x70, x71, x72, x73, x74, x75, x76, x77, x78, x79, x80, x81, x82, x83, x84, x85, x86, x87, x88, x89, x90, x91, x92, x93, x94, x95, x96, x97, x98, x99, x100, x101, x102, x103, x104, x105, x106, x107, x108, x109, x110, x111, x112, x113, x114, x115, x116, x117, x118, x119, x120, x121, x122, x123, x124, x125, x126, x127, x128, x129, x130, x131, x132, n133, n134, n135, n136, n137, n138, n139, n140, n141, n142, x143, x144, x145, x146, x147, x148, x149, x150, x151, x152, x153, x154, x155, x156, x157, x158, x159, x160, x161, x162, x163, x164, x165, x166, x167, x168, x169, x170, x171, x172, x173, x174, x175, x176], []⟩ W)) :
    Code.wp Tryd.prog (regT 25) (Exit.then K Q) ⟨#[x0, x1, .slice (some ⟨lb, lo, none⟩) mlen mcap, x3, x4, x5, x6, x7, x8, x9, x10, x11, .pointer (some ⟨t2, 0, none⟩), x13, x14, x15, x16, x17, x18, x19, x20, x21, .pointer (some ⟨b2, 0, none⟩), x23, .int .i64 (k : Int), x25, x26, x27, x28, x29, x30, x31, x32, x33, x34, x35, x36, x37, x38, x39, x40, x41, x42, x43, x44, x45, x46, x47, x48, x49, x50, x51, x52, x53, x54, x55, x56, x57, x58, x59, x60, x61, x62, x63, x64, x65, x66, x67, x68, x69, x70, x71, x72, x73, x74, x75, x76, x77, x78, x79, x80, x81, x82, x83, x84, x85, x86, x87, x88, x89, x90, x91, x92, x93, x94, x95, x96, x97, x98, x99, x100, x101, x102, x103, x104, x105, x106, x107, x108, x109, x110, x111, x112, x113, x114, x115, x116, x117, x118, x119, x120, x121, x122, x123, x124, x125, x126, x127, x128, x129, x130, x131, x132, x133, x134, x135, x136, x137, x138, x139, x140, x141, x142, x143, x144, x145, x146, x147, x148, x149, x150, x151, x152, x153, x154, x155, x156, x157, x158, x159, x160, x161, x162, x163, x164, x165, x166, x167, x168, x169, x170, x171, x172, x173, x174, x175, x176], []⟩ wr := by
  obtain ⟨r0, r1, r2, r3⟩ := VarT.c HM.out.v2
  have hlb : lb < wr.heap.size := World.block_lt_of_cell? wr ⟨lb, _, none⟩ q0
  have hb2l := HM.out.v2.lt
  have hb3l := HM.out.v3.lt
  have hg2e : 0 < g2 := by have := HDS.out; unfold Ds at this; omega
  have hgw := HM.out.q2.ltg
  have HST := Lib.hid (fun W (hb : Below wr.heap.size wr W) => stepw (HM.out.q2.below hb) kd h v hg2e (HM.out.la.below hb))
  refine wp_normal ?_
  conv => arg 2; whnf
  go_region_with (first
    | (go_at_call 19; refine (HST.out _ (Below.drew (below_alloc (Below.refl _ _) (Nat.le_refl _) _))).mono ?_; rintro e w5 ⟨Q, rfl, hQ5, hc5⟩; (try dsimp only); have Z5 := hc5.heap (k := wr.heap.size) (heap_alloc_new wr (.cells #[.int .i64 0, .slice none 0 0, .slice none 0 0, .slice none 0 0] 30)) (by show ¬ wr.heap.size = g2; omega); have C5 : Chg (fun k => k = g2) wr w5 := Chg.trans (by repeat (first | exact Chg.refl _ _ | refine Chg.alloc ?_ _ | refine Chg.drew ?_)) hc5; have J5 := Lib.hid (HM.out.step2 HDS.out C5 hQ5); have HZ5 := Lib.hid Z5; have VZ : VarT w5 wr.heap.size 0 0 none 0 none 0 none 0 := Z5; obtain ⟨z0, z1, z2, z3⟩ := VZ.c; have y0 := VZ.f 0; have y1 := VZ.f 1; have y2 := VZ.f 2; have y3 := VZ.f 3; clear VZ Z5; clear hQ5 hc5 C5)
    | (go_at_call 19; refine (HST.out _ (by first | exact Below.refl _ _ | exact Below.drew (Below.refl _ _))).mono ?_; rintro e w5 ⟨Q, rfl, hQ5, hc5⟩; (try dsimp only); have C5 : Chg (fun k => k = g2) wr w5 := Chg.trans (by repeat (first | exact Chg.refl _ _ | refine Chg.alloc ?_ _ | refine Chg.drew ?_)) hc5; have J5 := Lib.hid (HM.out.step2 HDS.out C5 hQ5); have hsz5 := C5.size; clear hQ5 hc5 C5)
    | fail)
  all_goals (go_wp2_with fail)
  all_goals first
    | exact hK.out wr.heap.size (put4 w5 wr.heap.size n Q) Q _ _ _ _ _ _ _ _ _ _ (J5.out.put HDS.out (.inr ⟨_, HZ5.out⟩) hb2l hb3l Q) (put4_new HZ5.out rfl Q) (Nat.le_refl _)
    | exact hK.out w5.heap.size (w5.alloc (.cells #[.int .i64 2, .slice Q.A1 n Q.c1, .slice Q.A2 n Q.c2, .slice Q.A3 n Q.c3] 30)) Q _ _ _ _ _ _ _ _ _ _ (J5.out.below ((Below.refl _ _).alloc (Nat.le_refl _) _)) (VarT.new w5 n 2 Q.A1 Q.c1 Q.A2 Q.c2 Q.A3 Q.c3) hsz5
end Go.Proofs.YtgjlkplieoajlaaDoor

set_option linter.unusedVariables false
set_option linter.unusedSimpArgs false
namespace Go.Proofs.YtgjlkplieoajlaaDoor
open Go.RowKit
open Go.Proofs.YtgjlkplieoajlaaDoorW.PrintWords (Kd Drawn0 Kept rd rdOf)
open Go.Proofs.YtgjlkplieoajlaaDoor.PSlotsTwins
set_option maxRecDepth 1000000

set_option maxHeartbeats 20000000 in
theorem reg26 {x0 x1 x3 x4 x5 x6 x7 x8 x9 x10 x11 x12 x13 x14 x15 x16 x17 x18 x19 x21 x22 x25 x26 x27 x28 x29 x30 x31 x32 x33 x34 x35 x36 x37 x38 x39 x40 x41 x42 x43 x44 x45 x46 x47 x48 x49 x50 x51 x52 x53 x54 x55 x56 x57 x58 x59 x60 x61 x62 x63 x64 x65 x66 x67 x68 x69 x70 x71 x72 x73 x74 x75 x76 x77 x78 x79 x80 x81 x82 x83 x84 x85 x86 x87 x88 x89 x90 x91 x92 x93 x94 x95 x96 x97 x98 x99 x100 x101 x102 x103 x104 x105 x106 x107 x108 x109 x110 x111 x112 x113 x114 x115 x116 x117 x118 x119 x120 x121 x122 x123 x124 x125 x126 x127 x128 x129 x130 x131 x132 x133 x134 x135 x136 x137 x138 x139 x140 x141 x142 x143 x144 x145 x146 x147 x148 x149 x150 x151 x152 x153 x154 x155 x156 x157 x158 x159 x160 x161 x162 x163 x164 x165 x166 x167 x168 x169 x170 x171 x172 x173 x174 x175 x176 : Value} {wr : World} {p1 : Nat} {w : World} {B n t g cap t2 g2 cap2 t3 g3 cap3 rb b2 b3 lb lo mlen mcap k : Nat} {R Q2 Q3 Q2' Q3' : Rw} {kd h v : Int} {K : Act → World → Prop} {Q : Exit → Act → World → Prop} (hm2 : mlen ≤ 2 ^ 63 - 1) (hlt : k < mlen) (q0 : wr.cell? ⟨lb, lo + k * 3, none⟩ = some (.int .i64 kd)) (q1 : wr.cell? ⟨lb, lo + k * 3 + 1, none⟩ = some (.int .i64 h)) (q2 : wr.cell? ⟨lb, lo + k * 3 + 2, none⟩ = some (.int .i64 v)) (HDS : Hid (Ds w.heap.size t g t2 g2 t3 g3 rb b2 b3)) (HM : Hid (M3 w wr B n t g cap t2 g2 cap2 t3 g3 cap3 rb b2 b3 R Q2' Q2 Q3 Q3)) (HV1 : Hid (VTw wr p1 n Q2')) (hg3p : g3 < p1)
    (hK : Hid (∀ (p : Nat) (W : World) (Q' : Rw) (n143 n144 n145 n146 n147 n148 n149 n150 n151 n152 : Value), M3 w W B n t g cap t2 g2 cap2 t3 g3 cap3 rb b2 b3 R Q2' Q2 Q' Q3 → VTw W p1 n Q2' → VTw W p n Q' → p1 ≠ p → b3 < p → b2 < p → K ⟨#[x0, x1, .slice (some ⟨lb, lo, none⟩) mlen mcap, x3, x4, x5, x6, x7, x8, x9, x10, x11, x12, x13, x14, x15, x16, x17, x18, x19, .pointer (some ⟨t3, 0, none⟩), x21, x22, .pointer (some ⟨b3, 0, none⟩), .int .i64 (k : Int), x25, x26, .pointer (some ⟨p, 0, none⟩), .bool true, x29, x30, x31, x32, x33, x34, x35, x36, x37, x38, x39, x40, x41, x42, x43, x44, x45, x46, x47, x48, x49, x50, x51, x52, x53, x54, x55, x56, x57, x58, x59, x60, x61, x62, x63, x64, x65, x66, x67, x68, x69, x70, x71, x72, x73, x74, x75, x76, x77, x78, x79, x80, x81, x82, x83, x84, x85, x86, x87, x88, x89, x90, x91, x92, x93, x94, x95, x96, x97, x98, x99, x100, x101, x102, x103, x104, x105, x106, x107, x108, x109, x110, x111, x112, x113, x114, x115, x116, x117, x118, x119, x120, x121, x122, x123, x124, x125, x126, x127, x128, x129, x130, x131, x132, x133, x134, x135, x136, x137, x138, x139, x140, x141, x142, n143, n144, n145, n146, n147, n148, n149, n150, n151, n152, x153, x154, x155, x156, x157, x158, x159, x160, x161, x162, x163, x164, x165, x166, x167, x168, x169, x170, x171, x172, x173, x174, x175, x176], []⟩ W)) :
    Code.wp Tryd.prog (regT 26) (Exit.then K Q) ⟨#[x0, x1, .slice (some ⟨lb, lo, none⟩) mlen mcap, x3, x4, x5, x6, x7, x8, x9, x10, x11, x12, x13, x14, x15, x16, x17, x18, x19, .pointer (some ⟨t3, 0, none⟩), x21, x22, .pointer (some ⟨b3, 0, none⟩), .int .i64 (k : Int), x25, x26, x27, x28, x29, x30, x31, x32, x33, x34, x35, x36, x37, x38, x39, x40, x41, x42, x43, x44, x45, x46, x47, x48, x49, x50, x51, x52, x53, x54, x55, x56, x57, x58, x59, x60, x61, x62, x63, x64, x65, x66, x67, x68, x69, x70, x71, x72, x73, x74, x75, x76, x77, x78, x79, x80, x81, x82, x83, x84, x85, x86, x87, x88, x89, x90, x91, x92, x93, x94, x95, x96, x97, x98, x99, x100, x101, x102, x103, x104, x105, x106, x107, x108, x109, x110, x111, x112, x113, x114, x115, x116, x117, x118, x119, x120, x121, x122, x123, x124, x125, x126, x127, x128, x129, x130, x131, x132, x133, x134, x135, x136, x137, x138, x139, x140, x141, x142, x143, x144, x145, x146, x147, x148, x149, x150, x151, x152, x153, x154, x155, x156, x157, x158, x159, x160, x161, x162, x163, x164, x165, x166, x167, x168, x169, x170, x171, x172, x173, x174, x175, x176], []⟩ wr := by
  obtain ⟨r0, r1, r2, r3⟩ := VarT.c HM.out.v3
  have hlb : lb < wr.heap.size := World.block_lt_of_cell? wr ⟨lb, _, none⟩ q0
  have hb2l := HM.out.v2.lt
  have hb3l := HM.out.v3.lt
  have hp1l := HV1.out.lt
  have hg3e : 0 < g3 := by have := HDS.out; unfold Ds at this; omega
  have hgw := HM.out.q3.ltg
  have HST := Lib.hid (fun W (hb : Below wr.heap.size wr W) => stepw (HM.out.q3.below hb) kd h v hg3e (HM.out.la.below hb))
  refine wp_normal ?_
  conv => arg 2; whnf
  go_region_with (first
    | (go_at_call 19; refine (HST.out _ (Below.drew (below_alloc (Below.refl _ _) (Nat.le_refl _) _))).mono ?_; rintro e w5 ⟨Q, rfl, hQ5, hc5⟩; (try dsimp only); have Z5 := hc5.heap (k := wr.heap.size) (heap_alloc_new wr (.cells #[.int .i64 0, .slice none 0 0, .slice none 0 0, .slice none 0 0] 30)) (by show ¬ wr.heap.size = g3; omega); have C5 : Chg (fun k => k = g3) wr w5 := Chg.trans (by repeat (first | exact Chg.refl _ _ | refine Chg.alloc ?_ _ | refine Chg.drew ?_)) hc5; have J5 := Lib.hid (HM.out.step3 HDS.out C5 hQ5); have V5 := Lib.hid (HV1.out.chg C5 (by show ¬ p1 = g3; omega)); have HZ5 := Lib.hid Z5; have VZ : VarT w5 wr.heap.size 0 0 none 0 none 0 none 0 := Z5; obtain ⟨z0, z1, z2, z3⟩ := VZ.c; have y0 := VZ.f 0; have y1 := VZ.f 1; have y2 := VZ.f 2; have y3 := VZ.f 3; clear VZ Z5; clear hQ5 hc5 C5)
    | (go_at_call 19; refine (HST.out _ (by first | exact Below.refl _ _ | exact Below.drew (Below.refl _ _))).mono ?_; rintro e w5 ⟨Q, rfl, hQ5, hc5⟩; (try dsimp only); have C5 : Chg (fun k => k = g3) wr w5 := Chg.trans (by repeat (first | exact Chg.refl _ _ | refine Chg.alloc ?_ _ | refine Chg.drew ?_)) hc5; have J5 := Lib.hid (HM.out.step3 HDS.out C5 hQ5); have V5 := Lib.hid (HV1.out.chg C5 (by show ¬ p1 = g3; omega)); have hsz5 := C5.size; clear hQ5 hc5 C5)
    | fail)
  all_goals (go_wp2_with fail)
  all_goals first
    | exact hK.out wr.heap.size (put4 w5 wr.heap.size n Q) Q _ _ _ _ _ _ _ _ _ _ (J5.out.put HDS.out (.inr ⟨_, HZ5.out⟩) hb2l hb3l Q) (V5.out.chg (put4_chg w5 wr.heap.size n Q) (by show ¬ p1 = wr.heap.size; omega)) (put4_new HZ5.out rfl Q) (by omega) (by omega) (by omega)
    | exact hK.out w5.heap.size (w5.alloc (.cells #[.int .i64 2, .slice Q.A1 n Q.c1, .slice Q.A2 n Q.c2, .slice Q.A3 n Q.c3] 30)) Q _ _ _ _ _ _ _ _ _ _ (J5.out.below ((Below.refl _ _).alloc (Nat.le_refl _) _)) (V5.out.below ((Below.refl _ _).alloc (Nat.le_refl _) _)) (VarT.new w5 n 2 Q.A1 Q.c1 Q.A2 Q.c2 Q.A3 Q.c3) (by omega) (by omega) (by omega)
end Go.Proofs.YtgjlkplieoajlaaDoor

set_option linter.unusedVariables false
set_option linter.unusedSimpArgs false
namespace Go.Proofs.YtgjlkplieoajlaaDoor
open Go.RowKit
open Go.Proofs.YtgjlkplieoajlaaDoorW.PrintWords (Kd Drawn0 Kept rd rdOf)
open Go.Proofs.YtgjlkplieoajlaaDoor.PSlotsTwins
set_option maxRecDepth 1000000

set_option maxHeartbeats 20000000 in
theorem reg27 {x0 x1 x2 x3 x4 x5 x6 x7 x8 x9 x10 x11 x12 x13 x14 x15 x16 x17 x18 x19 x20 x21 x24 x26 x28 x29 x30 x31 x32 x33 x34 x35 x36 x37 x38 x39 x40 x41 x42 x43 x44 x45 x46 x47 x48 x49 x50 x51 x52 x53 x54 x55 x56 x57 x58 x59 x60 x61 x62 x63 x64 x65 x66 x67 x68 x69 x70 x71 x72 x73 x74 x75 x76 x77 x78 x79 x80 x81 x82 x83 x84 x85 x86 x87 x88 x89 x90 x91 x92 x93 x94 x95 x96 x97 x98 x99 x100 x101 x102 x103 x104 x105 x106 x107 x108 x109 x110 x111 x112 x113 x114 x115 x116 x117 x118 x119 x120 x121 x122 x123 x124 x125 x126 x127 x128 x129 x130 x131 x132 x133 x134 x135 x136 x137 x138 x139 x140 x141 x142 x143 x144 x145 x146 x147 x148 x149 x150 x151 x152 x153 x154 x155 x156 x157 x158 x159 x160 x161 x162 x163 x164 x165 x166 x167 x168 x169 x170 x171 x172 x173 x174 x175 x176 : Value} {wr : World} {p1 p2 : Nat} {w : World} {B n t g cap t2 g2 cap2 t3 g3 cap3 rb b2 b3 lb lo mlen mcap k : Nat} {R Q2 Q3 Q2' Q3' : Rw} {kd h v : Int} {K : Act → World → Prop} {Q : Exit → Act → World → Prop} (HDS : Hid (Ds w.heap.size t g t2 g2 t3 g3 rb b2 b3)) (HM : Hid (M3 w wr B n t g cap t2 g2 cap2 t3 g3 cap3 rb b2 b3 R Q2' Q2 Q3' Q3)) (HVA : Hid (VTw wr p1 n Q2')) (HVB : Hid (VTw wr p2 n Q3')) (hp12 : p1 ≠ p2) (hp23 : b3 < p2) (hp22 : b2 < p2) (hp13 : b3 < p1) (hp121 : b2 < p1)
    (hK : Hid (∀ (W : World) (n153 n154 : Value), M3 w W B n t g cap t2 g2 cap2 t3 g3 cap3 rb b2 b3 R Q2' Q2' Q3' Q3' → K ⟨#[x0, x1, x2, x3, x4, x5, x6, x7, x8, x9, x10, x11, x12, x13, x14, x15, x16, x17, x18, x19, x20, x21, .pointer (some ⟨b2, 0, none⟩), .pointer (some ⟨b3, 0, none⟩), x24, .pointer (some ⟨p1, 0, none⟩), x26, .pointer (some ⟨p2, 0, none⟩), x28, x29, x30, x31, x32, x33, x34, x35, x36, x37, x38, x39, x40, x41, x42, x43, x44, x45, x46, x47, x48, x49, x50, x51, x52, x53, x54, x55, x56, x57, x58, x59, x60, x61, x62, x63, x64, x65, x66, x67, x68, x69, x70, x71, x72, x73, x74, x75, x76, x77, x78, x79, x80, x81, x82, x83, x84, x85, x86, x87, x88, x89, x90, x91, x92, x93, x94, x95, x96, x97, x98, x99, x100, x101, x102, x103, x104, x105, x106, x107, x108, x109, x110, x111, x112, x113, x114, x115, x116, x117, x118, x119, x120, x121, x122, x123, x124, x125, x126, x127, x128, x129, x130, x131, x132, x133, x134, x135, x136, x137, x138, x139, x140, x141, x142, x143, x144, x145, x146, x147, x148, x149, x150, x151, x152, n153, n154, x155, x156, x157, x158, x159, x160, x161, x162, x163, x164, x165, x166, x167, x168, x169, x170, x171, x172, x173, x174, x175, x176], []⟩ W)) :
    Code.wp Tryd.prog (regT 27) (Exit.then K Q) ⟨#[x0, x1, x2, x3, x4, x5, x6, x7, x8, x9, x10, x11, x12, x13, x14, x15, x16, x17, x18, x19, x20, x21, .pointer (some ⟨b2, 0, none⟩), .pointer (some ⟨b3, 0, none⟩), x24, .pointer (some ⟨p1, 0, none⟩), x26, .pointer (some ⟨p2, 0, none⟩), x28, x29, x30, x31, x32, x33, x34, x35, x36, x37, x38, x39, x40, x41, x42, x43, x44, x45, x46, x47, x48, x49, x50, x51, x52, x53, x54, x55, x56, x57, x58, x59, x60, x61, x62, x63, x64, x65, x66, x67, x68, x69, x70, x71, x72, x73, x74, x75, x76, x77, x78, x79, x80, x81, x82, x83, x84, x85, x86, x87, x88, x89, x90, x91, x92, x93, x94, x95, x96, x97, x98, x99, x100, x101, x102, x103, x104, x105, x106, x107, x108, x109, x110, x111, x112, x113, x114, x115, x116, x117, x118, x119, x120, x121, x122, x123, x124, x125, x126, x127, x128, x129, x130, x131, x132, x133, x134, x135, x136, x137, x138, x139, x140, x141, x142, x143, x144, x145, x146, x147, x148, x149, x150, x151, x152, x153, x154, x155, x156, x157, x158, x159, x160, x161, x162, x163, x164, x165, x166, x167, x168, x169, x170, x171, x172, x173, x174, x175, x176], []⟩ wr := by
  obtain ⟨r0, r1, r2, r3⟩ := VarT.c HVA.out
  obtain ⟨s0, s1, s2, s3⟩ := VarT.c HVB.out
  obtain ⟨y0, y1, y2, y3⟩ := VarT.c HM.out.v2
  obtain ⟨z0, z1, z2, z3⟩ := VarT.c HM.out.v3
  have f0 := VarT.f HM.out.v2 0
  have f1 := VarT.f HM.out.v2 1
  have f2 := VarT.f HM.out.v2 2
  have f3 := VarT.f HM.out.v2 3
  have e0 := VarT.f HM.out.v3 0
  have e1 := VarT.f HM.out.v3 1
  have e2 := VarT.f HM.out.v3 2
  have e3 := VarT.f HM.out.v3 3
  have n1 : b2 ≠ p2 := by omega
  have n2 : b3 ≠ p1 := by omega
  have n3 : b2 ≠ b3 := by have := HDS.out; unfold Ds at this; omega
  have n4 : b2 ≠ p1 := by omega
  have n5 : b3 ≠ p2 := by omega
  refine wp_normal ?_
  conv => arg 2; whnf
  go_region_with (fail)
  all_goals (go_wp2_with fail)
  all_goals first
    | with_reducible exact hK.out _ _ _ (((HM.out.put2 HDS.out Q2').put3 HDS.out Q3').below (Below.drew (Below.refl _ _)))
    | with_reducible exact hK.out _ _ _ (((HM.out.put3 HDS.out Q3').put2 HDS.out Q2').below (Below.drew (Below.refl _ _)))
end Go.Proofs.YtgjlkplieoajlaaDoor
