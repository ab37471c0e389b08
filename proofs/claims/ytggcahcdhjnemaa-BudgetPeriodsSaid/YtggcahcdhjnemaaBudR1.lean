/- A round of BudgetPeriods. -/
import Derived.Test.YtggcahcdhjnemaaBudR0
import Derived.Test.YtggcahcdhjnemaaBud4
import Derived.Test.YtggcahcdhjnemaaBud5
import Derived.Test.YtggcahcdhjnemaaBud6
import Derived.Test.YtggcahcdhjnemaaBud7
import Derived.Test.YtggcahcdhjnemaaBudC
import Derived.Test.YtggcahcdhjnemaaBudD
import Derived.Test.YtggcahcdhjnemaaBudE
import Derived.Test.YtggcahcdhjnemaaBudF
import Derived.Deep.DeepCutAuto
import Derived.Deep.RegionWith
set_option linter.unusedVariables false
set_option linter.unusedSimpArgs false
namespace Go.Proofs.Ytggcahcdhjnemaa
open Go.RowKit
set_option maxRecDepth 1000000

set_option maxHeartbeats 20000000 in
theorem pc_0 {x0 x1 x3 x4 x5 x8 x25 x26 x27 x28 x29 x30 x31 x32 x33 x34 x35 x36 x37 x38 x39 x40 x41 x42 x43 x44 x45 x46 x47 x242 : Value} {x6 x13 x14 x15 x16 x17 x18 x19 x20 x21 x22 x23 x24 x48 x49 x50 x51 x52 x53 x54 x55 x56 x57 x58 x59 x60 x61 x62 x63 x64 x65 x66 x67 x68 x69 x70 x71 x72 x73 x74 x75 x76 x77 x78 x79 x80 x81 x82 x83 x84 x85 x86 x87 x88 x89 x90 x91 x92 x93 x94 x95 x96 x97 x98 x99 x100 x101 x102 x103 x104 x105 x106 x107 x108 x109 x110 x111 x112 x113 x114 x115 x116 x117 x118 x119 x120 x121 x122 x123 x124 x125 x126 x127 x128 x129 x130 x131 x132 x133 x134 x135 x136 x137 x138 x139 x140 x141 x142 x143 x144 x145 x146 x147 x148 x149 x150 x151 x152 x153 x154 x155 x156 x157 x158 x159 x160 x161 x162 x163 x164 x165 x166 x167 x168 x169 x170 x171 x172 x173 x174 x175 x176 x177 x178 x179 x180 x181 x182 x183 x184 x185 x186 x187 x188 x189 x190 x191 x192 x193 x194 x195 x196 x197 x198 x199 x200 x201 x202 x203 x204 x205 x206 x207 x208 x209 x210 x211 x212 x213 x214 x215 x216 x217 x218 x219 x220 x221 x222 x223 x224 x225 x226 x227 x228 x229 x230 x231 x232 x233 x234 x235 x236 x237 x238 x239 x240 x241 : Value} {w : World} {B len cap k b o : Nat} {kd rq rp mq mp xq xp tk st yq yp : Int} {dy : Bool} {wr : World} {R : Act → World → Prop} {Q1 : Act → World → Prop}
    (hm : len ≤ 2 ^ 63 - 1) (hlt : k < len) (hlt2 : k < 200) (HP : Hid (PI mq mp xq xp tk st yq yp)) (HM : Hid (Mem w B (budL mq mp xq xp dy (mq - tk) st (st + mp)) [.int .i64 yq, .int .i64 yp] wr))
    (HE0 : Hid (w.cell? ⟨b, o + k * 3, none⟩ = some (.int .i64 kd))) (HE1 : Hid (w.cell? ⟨b, o + k * 3 + 1, none⟩ = some (.int .i64 rq))) (HE2 : Hid (w.cell? ⟨b, o + k * 3 + 2, none⟩ = some (.int .i64 rp)))
    (hgo : Hid (∀ (n6 n9 n10 n12 n13 n14 n15 n16 n17 n18 n19 n20 n21 n22 n23 n24 n48 n49 n50 n51 n52 n53 n54 n55 n56 n57 n58 n59 n60 n61 n62 n63 n64 n65 n66 n67 n68 n69 n70 n71 n72 n73 n74 n75 n76 n77 n78 n79 n80 n81 n82 n83 n84 n85 n86 n87 n88 n89 n90 n91 n92 n93 n94 n95 n96 n97 n98 n99 n100 n101 n102 n103 n104 n105 n106 n107 n108 n109 n110 n111 n112 n113 n114 n115 n116 n117 n118 n119 n120 n121 n122 n123 n124 n125 n126 n127 n128 n129 n130 n131 n132 n133 n134 n135 n136 n137 n138 n139 n140 n141 n142 n143 n144 n145 n146 n147 n148 n149 n150 n151 n152 n153 n154 n155 n156 n157 n158 n159 n160 n161 n162 n163 n164 n165 n166 n167 n168 n169 n170 n171 n172 n173 n174 n175 n176 n177 n178 n179 n180 n181 n182 n183 n184 n185 n186 n187 n188 n189 n190 n191 n192 n193 n194 n195 n196 n197 n198 n199 n200 n201 n202 n203 n204 n205 n206 n207 n208 n209 n210 n211 n212 n213 n214 n215 n216 n217 n218 n219 n220 n221 n222 n223 n224 n225 n226 n227 n228 n229 n230 n231 n232 n233 n234 n235 n236 n237 n238 n239 n240 n241 : Value) (w'' : World), (∃ (mq mp xq xp tk st yq yp : Int) (dy : Bool), n12 = .int .i64 ((k + 1 : Nat) : Int) ∧ n9 = .int .i64 tk ∧ n10 = .bool dy ∧ Hid (PI mq mp xq xp tk st yq yp) ∧ Hid (Mem w B (budL mq mp xq xp dy (mq - tk) st (st + mp)) [.int .i64 yq, .int .i64 yp] w'')) → R ⟨#[x0, x1, .slice (some ⟨b, o, none⟩) len cap, x3, x4, x5, n6, .pointer (some ⟨B, 0, none⟩), x8, n9, n10, .pointer (some ⟨B + 1, 0, none⟩), n12, n13, n14, n15, n16, n17, n18, n19, n20, n21, n22, n23, n24, x25, x26, x27, x28, x29, x30, x31, x32, x33, x34, x35, x36, x37, x38, x39, x40, x41, x42, x43, x44, x45, x46, x47, n48, n49, n50, n51, n52, n53, n54, n55, n56, n57, n58, n59, n60, n61, n62, n63, n64, n65, n66, n67, n68, n69, n70, n71, n72, n73, n74, n75, n76, n77, n78, n79, n80, n81, n82, n83, n84, n85, n86, n87, n88, n89, n90, n91, n92, n93, n94, n95, n96, n97, n98, n99, n100, n101, n102, n103, n104, n105, n106, n107, n108, n109, n110, n111, n112, n113, n114, n115, n116, n117, n118, n119, n120, n121, n122, n123, n124, n125, n126, n127, n128, n129, n130, n131, n132, n133, n134, n135, n136, n137, n138, n139, n140, n141, n142, n143, n144, n145, n146, n147, n148, n149, n150, n151, n152, n153, n154, n155, n156, n157, n158, n159, n160, n161, n162, n163, n164, n165, n166, n167, n168, n169, n170, n171, n172, n173, n174, n175, n176, n177, n178, n179, n180, n181, n182, n183, n184, n185, n186, n187, n188, n189, n190, n191, n192, n193, n194, n195, n196, n197, n198, n199, n200, n201, n202, n203, n204, n205, n206, n207, n208, n209, n210, n211, n212, n213, n214, n215, n216, n217, n218, n219, n220, n221, n222, n223, n224, n225, n226, n227, n228, n229, n230, n231, n232, n233, n234, n235, n236, n237, n238, n239, n240, n241, x242], []⟩ w''))
    (hret : Hid (∀ (a' : Act) (w'' : World), a'.tmps.getD 6 undef = .bool true → a'.defers = [] → Below w.heap.size w w'' → Q1 a' w'')) (K0 : kd = 0) :
    Code.wp Try.prog bodyP (Exit.then R (retPost Q1)) ⟨#[x0, x1, .slice (some ⟨b, o, none⟩) len cap, x3, x4, x5, x6, .pointer (some ⟨B, 0, none⟩), x8, .int .i64 tk, .bool dy, .pointer (some ⟨B + 1, 0, none⟩), .int .i64 (k : Int), x13, x14, x15, x16, x17, x18, x19, x20, x21, x22, x23, x24, x25, x26, x27, x28, x29, x30, x31, x32, x33, x34, x35, x36, x37, x38, x39, x40, x41, x42, x43, x44, x45, x46, x47, x48, x49, x50, x51, x52, x53, x54, x55, x56, x57, x58, x59, x60, x61, x62, x63, x64, x65, x66, x67, x68, x69, x70, x71, x72, x73, x74, x75, x76, x77, x78, x79, x80, x81, x82, x83, x84, x85, x86, x87, x88, x89, x90, x91, x92, x93, x94, x95, x96, x97, x98, x99, x100, x101, x102, x103, x104, x105, x106, x107, x108, x109, x110, x111, x112, x113, x114, x115, x116, x117, x118, x119, x120, x121, x122, x123, x124, x125, x126, x127, x128, x129, x130, x131, x132, x133, x134, x135, x136, x137, x138, x139, x140, x141, x142, x143, x144, x145, x146, x147, x148, x149, x150, x151, x152, x153, x154, x155, x156, x157, x158, x159, x160, x161, x162, x163, x164, x165, x166, x167, x168, x169, x170, x171, x172, x173, x174, x175, x176, x177, x178, x179, x180, x181, x182, x183, x184, x185, x186, x187, x188, x189, x190, x191, x192, x193, x194, x195, x196, x197, x198, x199, x200, x201, x202, x203, x204, x205, x206, x207, x208, x209, x210, x211, x212, x213, x214, x215, x216, x217, x218, x219, x220, x221, x222, x223, x224, x225, x226, x227, x228, x229, x230, x231, x232, x233, x234, x235, x236, x237, x238, x239, x240, x241, x242], []⟩ wr := by
  conv => arg 2; whnf
  obtain ⟨hv, hy⟩ := HP.out
  obtain ⟨e1, ey⟩ := HP.out.held
  have M := HM.out
  have hv1 := hv.1
  have n0 := hv1.lo; have n1 := hv1.top; have n2 := hv1.le
  obtain ⟨t0, t1, s0, s1, _⟩ := hv.2.2
  have b0 := M.cb 0 _ rfl; have b1 := M.cb 1 _ rfl; have b2 := M.cb 2 _ rfl; have b3 := M.cb 3 _ rfl; have b4 := M.cb 4 _ rfl; have b5 := M.cb 5 _ rfl; have b6 := M.cb 6 _ rfl; have b7 := M.cb 7 _ rfl; have y0 := M.cy 0 _ rfl; have y1 := M.cy 1 _ rfl
  have HV := Lib.hid hv
  have HY := Lib.hid hy
  have HE := Lib.hid ey
  clear hv hy M ey
  go_wp2_with fail
  refine (rvalid_ok mq mp _ hv1).mono ?_
  rintro e w2 ⟨rfl, hb⟩
  dsimp only
  replace b0 := keep hb b0
  replace b1 := keep hb b1
  replace b2 := keep hb b2
  replace b3 := keep hb b3
  replace b4 := keep hb b4
  replace b5 := keep hb b5
  replace b6 := keep hb b6
  replace b7 := keep hb b7
  replace y0 := keep hb y0
  replace y1 := keep hb y1
  replace HM := Lib.hid (HM.out.call hb)
  clear hb
  go_wp2_with fail
  refine (res_ok mq mp xq xp dy (mq - tk) st (st + mp) _ HV.out).mono ?_
  rintro e w3 ⟨rfl, hb⟩
  dsimp only
  replace b0 := keep hb b0
  replace b1 := keep hb b1
  replace b2 := keep hb b2
  replace b3 := keep hb b3
  replace b4 := keep hb b4
  replace b5 := keep hb b5
  replace b6 := keep hb b6
  replace b7 := keep hb b7
  replace y0 := keep hb y0
  replace y1 := keep hb y1
  replace HM := Lib.hid (HM.out.call hb)
  clear hb
  go_upto_region 12 with (fail)
  go_cut [107] from 48 to 241 (fun v107 wx => v107 = .bool false ∧ Hid (Mem w B (budL mq mp xq xp dy (mq - tk) st (st + mp)) [.int .i64 yq, .int .i64 yp] wx))
  case first =>
    rcases HE.out with ⟨rfl, rfl⟩ | ⟨vy, z1, z2⟩
    · skip
      go_wp2_with fail
      refine (runits_ok mq mp _ hv1).mono ?_
      rintro e w4 ⟨rfl, hb⟩
      dsimp only
      replace b0 := keep hb b0
      replace b1 := keep hb b1
      replace b2 := keep hb b2
      replace b3 := keep hb b3
      replace b4 := keep hb b4
      replace b5 := keep hb b5
      replace b6 := keep hb b6
      replace b7 := keep hb b7
      replace y0 := keep hb y0
      replace y1 := keep hb y1
      replace HM := Lib.hid (HM.out.call hb)
      clear hb
      go_wp2_with fail
      go_meet
      case rel => exact ⟨by rw [show st + mp - st = mp by omega]; simp, HM⟩
    · have vy0 := vy.lo; have vy1 := vy.top; have vy2 := vy.le
      go_wp2_with fail
      refine (runits_ok mq mp _ hv1).mono ?_
      rintro e w4 ⟨rfl, hb⟩
      dsimp only
      replace b0 := keep hb b0
      replace b1 := keep hb b1
      replace b2 := keep hb b2
      replace b3 := keep hb b3
      replace b4 := keep hb b4
      replace b5 := keep hb b5
      replace b6 := keep hb b6
      replace b7 := keep hb b7
      replace y0 := keep hb y0
      replace y1 := keep hb y1
      replace HM := Lib.hid (HM.out.call hb)
      clear hb
      go_wp2_with fail
      refine (runits_ok yq yp _ vy).mono ?_
      rintro e w5 ⟨rfl, hb⟩
      dsimp only
      replace b0 := keep hb b0
      replace b1 := keep hb b1
      replace b2 := keep hb b2
      replace b3 := keep hb b3
      replace b4 := keep hb b4
      replace b5 := keep hb b5
      replace b6 := keep hb b6
      replace b7 := keep hb b7
      replace y0 := keep hb y0
      replace y1 := keep hb y1
      replace HM := Lib.hid (HM.out.call hb)
      clear hb
      go_wp2_with fail
      go_meet
      case rel => exact ⟨by rw [show st + mp - st = mp by omega]; simp, HM⟩
  case rest =>
    obtain ⟨rfl, HM⟩ := hcut
    have M := HM.out
    replace b0 := M.cb 0 _ rfl; replace b1 := M.cb 1 _ rfl; replace b2 := M.cb 2 _ rfl; replace b3 := M.cb 3 _ rfl; replace b4 := M.cb 4 _ rfl; replace b5 := M.cb 5 _ rfl; replace b6 := M.cb 6 _ rfl; replace b7 := M.cb 7 _ rfl; replace y0 := M.cy 0 _ rfl; replace y1 := M.cy 1 _ rfl
    clear M
    subst K0
    have E0 := HM.out.at HE0.out
    by_cases T : tk < mq
    · skip
      have t5 : decide (tk < mq) = true := by simp; omega
      go_wp2_with fail
      refine (btake_ok mq mp xq xp dy (mq - tk) st (st + mp) _ HV.out (by omega)).mono ?_
      rintro e w3 ⟨rfl, hb⟩
      dsimp only
      replace b0 := keep hb b0
      replace b1 := keep hb b1
      replace b2 := keep hb b2
      replace b3 := keep hb b3
      replace b4 := keep hb b4
      replace b5 := keep hb b5
      replace b6 := keep hb b6
      replace b7 := keep hb b7
      replace y0 := keep hb y0
      replace y1 := keep hb y1
      replace HM := Lib.hid (HM.out.call hb)
      clear hb
      have hb : Below w3.heap.size w3 (w3.alloc (.cells #[.int .i64 mq, .int .i64 mp, .int .i64 xq, .int .i64 xp, .bool dy, .int .i64 (mq - tk - 1), .int .i64 st, .int .i64 (st + mp)] 35)) := (Below.refl _ _).alloc (Nat.le_refl _) _
      replace b0 := keep hb b0
      replace b1 := keep hb b1
      replace b2 := keep hb b2
      replace b3 := keep hb b3
      replace b4 := keep hb b4
      replace b5 := keep hb b5
      replace b6 := keep hb b6
      replace b7 := keep hb b7
      replace y0 := keep hb y0
      replace y1 := keep hb y1
      replace HM := Lib.hid (HM.out.call hb)
      clear hb
      have d0 : (w3.alloc (.cells #[.int .i64 mq, .int .i64 mp, .int .i64 xq, .int .i64 xp, .bool dy, .int .i64 (mq - tk - 1), .int .i64 st, .int .i64 (st + mp)] 35)).cell? ⟨w3.heap.size, 0, none⟩ = some (.int .i64 mq) := by simp
      have d1 : (w3.alloc (.cells #[.int .i64 mq, .int .i64 mp, .int .i64 xq, .int .i64 xp, .bool dy, .int .i64 (mq - tk - 1), .int .i64 st, .int .i64 (st + mp)] 35)).cell? ⟨w3.heap.size, 1, none⟩ = some (.int .i64 mp) := by simp
      have d2 : (w3.alloc (.cells #[.int .i64 mq, .int .i64 mp, .int .i64 xq, .int .i64 xp, .bool dy, .int .i64 (mq - tk - 1), .int .i64 st, .int .i64 (st + mp)] 35)).cell? ⟨w3.heap.size, 2, none⟩ = some (.int .i64 xq) := by simp
      have d3 : (w3.alloc (.cells #[.int .i64 mq, .int .i64 mp, .int .i64 xq, .int .i64 xp, .bool dy, .int .i64 (mq - tk - 1), .int .i64 st, .int .i64 (st + mp)] 35)).cell? ⟨w3.heap.size, 3, none⟩ = some (.int .i64 xp) := by simp
      have d4 : (w3.alloc (.cells #[.int .i64 mq, .int .i64 mp, .int .i64 xq, .int .i64 xp, .bool dy, .int .i64 (mq - tk - 1), .int .i64 st, .int .i64 (st + mp)] 35)).cell? ⟨w3.heap.size, 4, none⟩ = some (.bool dy) := by simp
      have d5 : (w3.alloc (.cells #[.int .i64 mq, .int .i64 mp, .int .i64 xq, .int .i64 xp, .bool dy, .int .i64 (mq - tk - 1), .int .i64 st, .int .i64 (st + mp)] 35)).cell? ⟨w3.heap.size, 5, none⟩ = some (.int .i64 (mq - tk - 1)) := by simp
      have d6 : (w3.alloc (.cells #[.int .i64 mq, .int .i64 mp, .int .i64 xq, .int .i64 xp, .bool dy, .int .i64 (mq - tk - 1), .int .i64 st, .int .i64 (st + mp)] 35)).cell? ⟨w3.heap.size, 6, none⟩ = some (.int .i64 st) := by simp
      have d7 : (w3.alloc (.cells #[.int .i64 mq, .int .i64 mp, .int .i64 xq, .int .i64 xp, .bool dy, .int .i64 (mq - tk - 1), .int .i64 st, .int .i64 (st + mp)] 35)).cell? ⟨w3.heap.size, 7, none⟩ = some (.int .i64 (st + mp)) := by simp
      have fb := HM.out.fb
      have f0 := fb 0
      have f1 := fb 1
      have f2 := fb 2
      have f3 := fb 3
      have f4 := fb 4
      have f5 := fb 5
      have f6 := fb 6
      have f7 := fb 7
      clear fb
      go_wp2_with fail
      go_quiet (fail)
      go_wp2_with fail
      exact hgo.out _ _ _ _ _ _ _ _ _ _ _ _ _ _ _ _ _ _ _ _ _ _ _ _ _ _ _ _ _ _ _ _ _ _ _ _ _ _ _ _ _ _ _ _ _ _ _ _ _ _ _ _ _ _ _ _ _ _ _ _ _ _ _ _ _ _ _ _ _ _ _ _ _ _ _ _ _ _ _ _ _ _ _ _ _ _ _ _ _ _ _ _ _ _ _ _ _ _ _ _ _ _ _ _ _ _ _ _ _ _ _ _ _ _ _ _ _ _ _ _ _ _ _ _ _ _ _ _ _ _ _ _ _ _ _ _ _ _ _ _ _ _ _ _ _ _ _ _ _ _ _ _ _ _ _ _ _ _ _ _ _ _ _ _ _ _ _ _ _ _ _ _ _ _ _ _ _ _ _ _ _ _ _ _ _ _ _ _ _ _ _ _ _ _ _ _ _ _ _ _ _ _ _ _ _ _ _ _ _ _ _ ⟨mq, mp, xq, xp, (tk + 1), st, yq, yp, dy, by go_num, by go_num, rfl, Lib.hid (HP.out.take T), by first | exact (show Hid _ by rw [show mq - (tk + 1) = mq - tk - 1 by omega]; exact Lib.hid (HM.out.storeB _ _ _ _ _ _ _ _)) | exact (show Hid _ by rw [show mq - (tk + 1) = mq - tk - 1 by omega]; exact Lib.hid ((HM.out.drew _).storeB _ _ _ _ _ _ _ _))⟩
    · have t5 : decide (tk < mq) = false := by simp; omega
      go_wp2_with fail
      refine (btake_none mq mp xq xp dy (mq - tk) st (st + mp) _ HV.out (by omega)).mono ?_
      rintro e w3 ⟨rfl, hb⟩
      dsimp only
      replace b0 := keep hb b0
      replace b1 := keep hb b1
      replace b2 := keep hb b2
      replace b3 := keep hb b3
      replace b4 := keep hb b4
      replace b5 := keep hb b5
      replace b6 := keep hb b6
      replace b7 := keep hb b7
      replace y0 := keep hb y0
      replace y1 := keep hb y1
      replace HM := Lib.hid (HM.out.call hb)
      clear hb
      have hb : Below w3.heap.size w3 (w3.alloc (.cells #[.int .i64 0, .int .i64 0, .int .i64 0, .int .i64 0, .bool false, .int .i64 0, .int .i64 0, .int .i64 0] 35)) := (Below.refl _ _).alloc (Nat.le_refl _) _
      replace b0 := keep hb b0
      replace b1 := keep hb b1
      replace b2 := keep hb b2
      replace b3 := keep hb b3
      replace b4 := keep hb b4
      replace b5 := keep hb b5
      replace b6 := keep hb b6
      replace b7 := keep hb b7
      replace y0 := keep hb y0
      replace y1 := keep hb y1
      replace HM := Lib.hid (HM.out.call hb)
      clear hb
      have d0 : (w3.alloc (.cells #[.int .i64 0, .int .i64 0, .int .i64 0, .int .i64 0, .bool false, .int .i64 0, .int .i64 0, .int .i64 0] 35)).cell? ⟨w3.heap.size, 0, none⟩ = some (.int .i64 0) := by simp
      have d1 : (w3.alloc (.cells #[.int .i64 0, .int .i64 0, .int .i64 0, .int .i64 0, .bool false, .int .i64 0, .int .i64 0, .int .i64 0] 35)).cell? ⟨w3.heap.size, 1, none⟩ = some (.int .i64 0) := by simp
      have d2 : (w3.alloc (.cells #[.int .i64 0, .int .i64 0, .int .i64 0, .int .i64 0, .bool false, .int .i64 0, .int .i64 0, .int .i64 0] 35)).cell? ⟨w3.heap.size, 2, none⟩ = some (.int .i64 0) := by simp
      have d3 : (w3.alloc (.cells #[.int .i64 0, .int .i64 0, .int .i64 0, .int .i64 0, .bool false, .int .i64 0, .int .i64 0, .int .i64 0] 35)).cell? ⟨w3.heap.size, 3, none⟩ = some (.int .i64 0) := by simp
      have d4 : (w3.alloc (.cells #[.int .i64 0, .int .i64 0, .int .i64 0, .int .i64 0, .bool false, .int .i64 0, .int .i64 0, .int .i64 0] 35)).cell? ⟨w3.heap.size, 4, none⟩ = some (.bool false) := by simp
      have d5 : (w3.alloc (.cells #[.int .i64 0, .int .i64 0, .int .i64 0, .int .i64 0, .bool false, .int .i64 0, .int .i64 0, .int .i64 0] 35)).cell? ⟨w3.heap.size, 5, none⟩ = some (.int .i64 0) := by simp
      have d6 : (w3.alloc (.cells #[.int .i64 0, .int .i64 0, .int .i64 0, .int .i64 0, .bool false, .int .i64 0, .int .i64 0, .int .i64 0] 35)).cell? ⟨w3.heap.size, 6, none⟩ = some (.int .i64 0) := by simp
      have d7 : (w3.alloc (.cells #[.int .i64 0, .int .i64 0, .int .i64 0, .int .i64 0, .bool false, .int .i64 0, .int .i64 0, .int .i64 0] 35)).cell? ⟨w3.heap.size, 7, none⟩ = some (.int .i64 0) := by simp
      go_wp2_with fail
      go_quiet (fail)
      go_wp2_with fail
      exact hgo.out _ _ _ _ _ _ _ _ _ _ _ _ _ _ _ _ _ _ _ _ _ _ _ _ _ _ _ _ _ _ _ _ _ _ _ _ _ _ _ _ _ _ _ _ _ _ _ _ _ _ _ _ _ _ _ _ _ _ _ _ _ _ _ _ _ _ _ _ _ _ _ _ _ _ _ _ _ _ _ _ _ _ _ _ _ _ _ _ _ _ _ _ _ _ _ _ _ _ _ _ _ _ _ _ _ _ _ _ _ _ _ _ _ _ _ _ _ _ _ _ _ _ _ _ _ _ _ _ _ _ _ _ _ _ _ _ _ _ _ _ _ _ _ _ _ _ _ _ _ _ _ _ _ _ _ _ _ _ _ _ _ _ _ _ _ _ _ _ _ _ _ _ _ _ _ _ _ _ _ _ _ _ _ _ _ _ _ _ _ _ _ _ _ _ _ _ _ _ _ _ _ _ _ _ _ _ _ _ _ _ _ ⟨mq, mp, xq, xp, tk, st, yq, yp, dy, by go_num, rfl, rfl, HP, by first | exact HM | exact Lib.hid (HM.out.drew _)⟩
end Go.Proofs.Ytggcahcdhjnemaa
