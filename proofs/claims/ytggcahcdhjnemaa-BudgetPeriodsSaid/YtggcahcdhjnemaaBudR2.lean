/- A round of BudgetPeriods. -/
import Derived.Test.YtggcahcdhjnemaaBudS36
import Derived.Test.YtggcahcdhjnemaaBudS37a
import Derived.Test.YtggcahcdhjnemaaBudS37b
import Derived.Test.YtggcahcdhjnemaaBudS37c
import Derived.Test.YtggcahcdhjnemaaBud4
import Derived.Test.YtggcahcdhjnemaaBud5
import Derived.Test.YtggcahcdhjnemaaBud6
import Derived.Test.YtggcahcdhjnemaaBud7
import Derived.Test.YtggcahcdhjnemaaBudC
import Derived.Test.YtggcahcdhjnemaaBudD
import Derived.Test.YtggcahcdhjnemaaBudE
import Derived.Test.YtggcahcdhjnemaaBudF
import Derived.Deep.DeepCutAuto
import Derived.Deep.RegionWith
set_option linter.unusedVariables false
set_option linter.unusedSimpArgs false
namespace Go.Proofs.Ytggcahcdhjnemaa
open Go.RowKit
set_option maxRecDepth 1000000

set_option maxHeartbeats 20000000 in
theorem pc_1 {x0 x1 x3 x4 x5 x8 x25 x26 x27 x28 x29 x30 x31 x32 x33 x34 x35 x36 x37 x38 x39 x40 x41 x42 x43 x44 x45 x46 x47 x242 : Value} {x6 x13 x14 x15 x16 x17 x18 x19 x20 x21 x22 x23 x24 x48 x49 x50 x51 x52 x53 x54 x55 x56 x57 x58 x59 x60 x61 x62 x63 x64 x65 x66 x67 x68 x69 x70 x71 x72 x73 x74 x75 x76 x77 x78 x79 x80 x81 x82 x83 x84 x85 x86 x87 x88 x89 x90 x91 x92 x93 x94 x95 x96 x97 x98 x99 x100 x101 x102 x103 x104 x105 x106 x107 x108 x109 x110 x111 x112 x113 x114 x115 x116 x117 x118 x119 x120 x121 x122 x123 x124 x125 x126 x127 x128 x129 x130 x131 x132 x133 x134 x135 x136 x137 x138 x139 x140 x141 x142 x143 x144 x145 x146 x147 x148 x149 x150 x151 x152 x153 x154 x155 x156 x157 x158 x159 x160 x161 x162 x163 x164 x165 x166 x167 x168 x169 x170 x171 x172 x173 x174 x175 x176 x177 x178 x179 x180 x181 x182 x183 x184 x185 x186 x187 x188 x189 x190 x191 x192 x193 x194 x195 x196 x197 x198 x199 x200 x201 x202 x203 x204 x205 x206 x207 x208 x209 x210 x211 x212 x213 x214 x215 x216 x217 x218 x219 x220 x221 x222 x223 x224 x225 x226 x227 x228 x229 x230 x231 x232 x233 x234 x235 x236 x237 x238 x239 x240 x241 : Value} {w : World} {B len cap k b o : Nat} {kd rq rp mq mp xq xp tk st yq yp : Int} {dy : Bool} {wr : World} {R : Act → World → Prop} {Q1 : Act → World → Prop}
    (hm : len ≤ 2 ^ 63 - 1) (hlt : k < len) (hlt2 : k < 200) (HP : Hid (PI mq mp xq xp tk st yq yp)) (HM : Hid (Mem w B (budL mq mp xq xp dy (mq - tk) st (st + mp)) [.int .i64 yq, .int .i64 yp] wr))
    (HE0 : Hid (w.cell? ⟨b, o + k * 3, none⟩ = some (.int .i64 kd))) (HE1 : Hid (w.cell? ⟨b, o + k * 3 + 1, none⟩ = some (.int .i64 rq))) (HE2 : Hid (w.cell? ⟨b, o + k * 3 + 2, none⟩ = some (.int .i64 rp)))
    (hgo : Hid (∀ (n6 n9 n10 n12 n13 n14 n15 n16 n17 n18 n19 n20 n21 n22 n23 n24 n48 n49 n50 n51 n52 n53 n54 n55 n56 n57 n58 n59 n60 n61 n62 n63 n64 n65 n66 n67 n68 n69 n70 n71 n72 n73 n74 n75 n76 n77 n78 n79 n80 n81 n82 n83 n84 n85 n86 n87 n88 n89 n90 n91 n92 n93 n94 n95 n96 n97 n98 n99 n100 n101 n102 n103 n104 n105 n106 n107 n108 n109 n110 n111 n112 n113 n114 n115 n116 n117 n118 n119 n120 n121 n122 n123 n124 n125 n126 n127 n128 n129 n130 n131 n132 n133 n134 n135 n136 n137 n138 n139 n140 n141 n142 n143 n144 n145 n146 n147 n148 n149 n150 n151 n152 n153 n154 n155 n156 n157 n158 n159 n160 n161 n162 n163 n164 n165 n166 n167 n168 n169 n170 n171 n172 n173 n174 n175 n176 n177 n178 n179 n180 n181 n182 n183 n184 n185 n186 n187 n188 n189 n190 n191 n192 n193 n194 n195 n196 n197 n198 n199 n200 n201 n202 n203 n204 n205 n206 n207 n208 n209 n210 n211 n212 n213 n214 n215 n216 n217 n218 n219 n220 n221 n222 n223 n224 n225 n226 n227 n228 n229 n230 n231 n232 n233 n234 n235 n236 n237 n238 n239 n240 n241 : Value) (w'' : World), (∃ (mq mp xq xp tk st yq yp : Int) (dy : Bool), n12 = .int .i64 ((k + 1 : Nat) : Int) ∧ n9 = .int .i64 tk ∧ n10 = .bool dy ∧ Hid (PI mq mp xq xp tk st yq yp) ∧ Hid (Mem w B (budL mq mp xq xp dy (mq - tk) st (st + mp)) [.int .i64 yq, .int .i64 yp] w'')) → R ⟨#[x0, x1, .slice (some ⟨b, o, none⟩) len cap, x3, x4, x5, n6, .pointer (some ⟨B, 0, none⟩), x8, n9, n10, .pointer (some ⟨B + 1, 0, none⟩), n12, n13, n14, n15, n16, n17, n18, n19, n20, n21, n22, n23, n24, x25, x26, x27, x28, x29, x30, x31, x32, x33, x34, x35, x36, x37, x38, x39, x40, x41, x42, x43, x44, x45, x46, x47, n48, n49, n50, n51, n52, n53, n54, n55, n56, n57, n58, n59, n60, n61, n62, n63, n64, n65, n66, n67, n68, n69, n70, n71, n72, n73, n74, n75, n76, n77, n78, n79, n80, n81, n82, n83, n84, n85, n86, n87, n88, n89, n90, n91, n92, n93, n94, n95, n96, n97, n98, n99, n100, n101, n102, n103, n104, n105, n106, n107, n108, n109, n110, n111, n112, n113, n114, n115, n116, n117, n118, n119, n120, n121, n122, n123, n124, n125, n126, n127, n128, n129, n130, n131, n132, n133, n134, n135, n136, n137, n138, n139, n140, n141, n142, n143, n144, n145, n146, n147, n148, n149, n150, n151, n152, n153, n154, n155, n156, n157, n158, n159, n160, n161, n162, n163, n164, n165, n166, n167, n168, n169, n170, n171, n172, n173, n174, n175, n176, n177, n178, n179, n180, n181, n182, n183, n184, n185, n186, n187, n188, n189, n190, n191, n192, n193, n194, n195, n196, n197, n198, n199, n200, n201, n202, n203, n204, n205, n206, n207, n208, n209, n210, n211, n212, n213, n214, n215, n216, n217, n218, n219, n220, n221, n222, n223, n224, n225, n226, n227, n228, n229, n230, n231, n232, n233, n234, n235, n236, n237, n238, n239, n240, n241, x242], []⟩ w''))
    (hret : Hid (∀ (a' : Act) (w'' : World), a'.tmps.getD 6 undef = .bool true → a'.defers = [] → Below w.heap.size w w'' → Q1 a' w'')) (K1 : kd = 1) :
    Code.wp Try.prog bodyP (Exit.then R (retPost Q1)) ⟨#[x0, x1, .slice (some ⟨b, o, none⟩) len cap, x3, x4, x5, x6, .pointer (some ⟨B, 0, none⟩), x8, .int .i64 tk, .bool dy, .pointer (some ⟨B + 1, 0, none⟩), .int .i64 (k : Int), x13, x14, x15, x16, x17, x18, x19, x20, x21, x22, x23, x24, x25, x26, x27, x28, x29, x30, x31, x32, x33, x34, x35, x36, x37, x38, x39, x40, x41, x42, x43, x44, x45, x46, x47, x48, x49, x50, x51, x52, x53, x54, x55, x56, x57, x58, x59, x60, x61, x62, x63, x64, x65, x66, x67, x68, x69, x70, x71, x72, x73, x74, x75, x76, x77, x78, x79, x80, x81, x82, x83, x84, x85, x86, x87, x88, x89, x90, x91, x92, x93, x94, x95, x96, x97, x98, x99, x100, x101, x102, x103, x104, x105, x106, x107, x108, x109, x110, x111, x112, x113, x114, x115, x116, x117, x118, x119, x120, x121, x122, x123, x124, x125, x126, x127, x128, x129, x130, x131, x132, x133, x134, x135, x136, x137, x138, x139, x140, x141, x142, x143, x144, x145, x146, x147, x148, x149, x150, x151, x152, x153, x154, x155, x156, x157, x158, x159, x160, x161, x162, x163, x164, x165, x166, x167, x168, x169, x170, x171, x172, x173, x174, x175, x176, x177, x178, x179, x180, x181, x182, x183, x184, x185, x186, x187, x188, x189, x190, x191, x192, x193, x194, x195, x196, x197, x198, x199, x200, x201, x202, x203, x204, x205, x206, x207, x208, x209, x210, x211, x212, x213, x214, x215, x216, x217, x218, x219, x220, x221, x222, x223, x224, x225, x226, x227, x228, x229, x230, x231, x232, x233, x234, x235, x236, x237, x238, x239, x240, x241, x242], []⟩ wr := by
  conv => arg 2; whnf
  obtain ⟨hv, hy⟩ := HP.out
  obtain ⟨e1, ey⟩ := HP.out.held
  have M := HM.out
  have hv1 := hv.1
  have n0 := hv1.lo; have n1 := hv1.top; have n2 := hv1.le
  obtain ⟨t0, t1, s0, s1, _⟩ := hv.2.2
  have b0 := M.cb 0 _ rfl; have b1 := M.cb 1 _ rfl; have b2 := M.cb 2 _ rfl; have b3 := M.cb 3 _ rfl; have b4 := M.cb 4 _ rfl; have b5 := M.cb 5 _ rfl; have b6 := M.cb 6 _ rfl; have b7 := M.cb 7 _ rfl; have y0 := M.cy 0 _ rfl; have y1 := M.cy 1 _ rfl
  have HV := Lib.hid hv
  have HY := Lib.hid hy
  have HE := Lib.hid ey
  clear hv hy M ey
  go_wp2_with fail
  refine (rvalid_ok mq mp _ hv1).mono ?_
  rintro e w2 ⟨rfl, hb⟩
  dsimp only
  replace b0 := keep hb b0
  replace b1 := keep hb b1
  replace b2 := keep hb b2
  replace b3 := keep hb b3
  replace b4 := keep hb b4
  replace b5 := keep hb b5
  replace b6 := keep hb b6
  replace b7 := keep hb b7
  replace y0 := keep hb y0
  replace y1 := keep hb y1
  replace HM := Lib.hid (HM.out.call hb)
  clear hb
  go_wp2_with fail
  refine (res_ok mq mp xq xp dy (mq - tk) st (st + mp) _ HV.out).mono ?_
  rintro e w3 ⟨rfl, hb⟩
  dsimp only
  replace b0 := keep hb b0
  replace b1 := keep hb b1
  replace b2 := keep hb b2
  replace b3 := keep hb b3
  replace b4 := keep hb b4
  replace b5 := keep hb b5
  replace b6 := keep hb b6
  replace b7 := keep hb b7
  replace y0 := keep hb y0
  replace y1 := keep hb y1
  replace HM := Lib.hid (HM.out.call hb)
  clear hb
  go_upto_region 12 with (fail)
  go_cut [107] from 48 to 241 (fun v107 wx => v107 = .bool false ∧ Hid (Mem w B (budL mq mp xq xp dy (mq - tk) st (st + mp)) [.int .i64 yq, .int .i64 yp] wx))
  case first =>
    rcases HE.out with ⟨rfl, rfl⟩ | ⟨vy, z1, z2⟩
    · skip
      go_wp2_with fail
      refine (runits_ok mq mp _ hv1).mono ?_
      rintro e w4 ⟨rfl, hb⟩
      dsimp only
      replace b0 := keep hb b0
      replace b1 := keep hb b1
      replace b2 := keep hb b2
      replace b3 := keep hb b3
      replace b4 := keep hb b4
      replace b5 := keep hb b5
      replace b6 := keep hb b6
      replace b7 := keep hb b7
      replace y0 := keep hb y0
      replace y1 := keep hb y1
      replace HM := Lib.hid (HM.out.call hb)
      clear hb
      go_wp2_with fail
      go_meet
      case rel => exact ⟨by rw [show st + mp - st = mp by omega]; simp, HM⟩
    · have vy0 := vy.lo; have vy1 := vy.top; have vy2 := vy.le
      go_wp2_with fail
      refine (runits_ok mq mp _ hv1).mono ?_
      rintro e w4 ⟨rfl, hb⟩
      dsimp only
      replace b0 := keep hb b0
      replace b1 := keep hb b1
      replace b2 := keep hb b2
      replace b3 := keep hb b3
      replace b4 := keep hb b4
      replace b5 := keep hb b5
      replace b6 := keep hb b6
      replace b7 := keep hb b7
      replace y0 := keep hb y0
      replace y1 := keep hb y1
      replace HM := Lib.hid (HM.out.call hb)
      clear hb
      go_wp2_with fail
      refine (runits_ok yq yp _ vy).mono ?_
      rintro e w5 ⟨rfl, hb⟩
      dsimp only
      replace b0 := keep hb b0
      replace b1 := keep hb b1
      replace b2 := keep hb b2
      replace b3 := keep hb b3
      replace b4 := keep hb b4
      replace b5 := keep hb b5
      replace b6 := keep hb b6
      replace b7 := keep hb b7
      replace y0 := keep hb y0
      replace y1 := keep hb y1
      replace HM := Lib.hid (HM.out.call hb)
      clear hb
      go_wp2_with fail
      go_meet
      case rel => exact ⟨by rw [show st + mp - st = mp by omega]; simp, HM⟩
  case rest =>
    obtain ⟨rfl, HM⟩ := hcut
    have M := HM.out
    replace b0 := M.cb 0 _ rfl; replace b1 := M.cb 1 _ rfl; replace b2 := M.cb 2 _ rfl; replace b3 := M.cb 3 _ rfl; replace b4 := M.cb 4 _ rfl; replace b5 := M.cb 5 _ rfl; replace b6 := M.cb 6 _ rfl; replace b7 := M.cb 7 _ rfl; replace y0 := M.cy 0 _ rfl; replace y1 := M.cy 1 _ rfl
    clear M
    have k0 : ((1 : Int) == 0) = false := rfl
    subst K1
    have E0 := HM.out.at HE0.out
    have E1 := HM.out.at HE1.out
    have E2 := HM.out.at HE2.out
    have hbB : b < B := by
      have h1 : b < w.heap.size := by
        rcases Nat.lt_or_ge b w.heap.size with h | h
        · exact h
        · have := HE0.out; simp [World.cell?, Array.getElem?_eq_none h] at this
      have := HM.out.lo
      omega
    obtain ⟨c0, c1, c2, c3, c4, c5, c6, c7, g, HR, HC⟩ := brs_any mq mp xq xp dy tk st rq rp yq yp HP.out
    have HHR := Lib.hid HR
    have HHC := Lib.hid HC
    clear HR HC
    go_upto_region 36 with (fail)
    go_cut [17, 18] from 48 to 241 (fun v17 v18 wx => ∃ C, B + 1 < C ∧ v17 = .pointer (some ⟨C, 0, none⟩) ∧ v18 = g ∧ Hid (Mem w B (budL mq mp xq xp dy (mq - tk) st (st + mp)) [.int .i64 yq, .int .i64 yp] wx) ∧ Hid (Blk C (budL c0 c1 c2 c3 c4 c5 c6 c7) wx))
    case first =>
      refine reg36 hm hlt hbB HM E1 E2 HHR (Lib.hid ?_)
      intro n17 n18 n196 n197 n198 n199 n200 n201 n202 n203 n204 n205 w' h
      dsimp only
      go_wp2_with fail
      go_meet
      exact h
    case rest =>
      obtain ⟨C, hC, rfl, rfl, HM2, HB⟩ := hcut
      replace HM := HM2
      clear HM2
      have M := HM.out
      replace b0 := M.cb 0 _ rfl; replace b1 := M.cb 1 _ rfl; replace b2 := M.cb 2 _ rfl; replace b3 := M.cb 3 _ rfl; replace b4 := M.cb 4 _ rfl; replace b5 := M.cb 5 _ rfl; replace b6 := M.cb 6 _ rfl; replace b7 := M.cb 7 _ rfl; replace y0 := M.cy 0 _ rfl; replace y1 := M.cy 1 _ rfl
      clear M
      replace E1 := HM.out.at HE1.out
      replace E2 := HM.out.at HE2.out
      have D := HB.out
      have d0 := D.c 0 _ rfl; have d1 := D.c 1 _ rfl; have d2 := D.c 2 _ rfl; have d3 := D.c 3 _ rfl; have d4 := D.c 4 _ rfl; have d5 := D.c 5 _ rfl; have d6 := D.c 6 _ rfl; have d7 := D.c 7 _ rfl
      clear D
      rcases HHC.out with ⟨R, rfl, rfl, HC2⟩ | ⟨⟨en, rfl⟩, hbad⟩
      · skip
        go_upto_region 37 with (fail)
        go_cut [219] from 48 to 241 (fun v219 wx => v219 = .bool false ∧ Hid (Mem w B (budL mq mp xq xp false (mq - tk) st (st + mp)) [.int .i64 yq, .int .i64 yp] wx) ∧ Hid (Blk C (budL c0 c1 c2 c3 c4 c5 c6 c7) wx))
        case first =>
          refine reg37a hm hlt E1 E2 (Lib.hid fun W => rvalid_ok rq rp W R) (Lib.hid ?_)
          intro n206 n207 n208 n209 n210 n211 n212 n213 n214 n215 n216 n217 n218 n219 w' h hb
          dsimp only
          go_wp2_with fail
          go_meet
          exact ⟨h, Lib.hid (HM.out.call hb), Lib.hid (HB.out.call hb)⟩
        case rest =>
          clear HM HB
          obtain ⟨rfl, HM, HB⟩ := hcut
          have M := HM.out
          replace b0 := M.cb 0 _ rfl; replace b1 := M.cb 1 _ rfl; replace b2 := M.cb 2 _ rfl; replace b3 := M.cb 3 _ rfl; replace b4 := M.cb 4 _ rfl; replace b5 := M.cb 5 _ rfl; replace b6 := M.cb 6 _ rfl; replace b7 := M.cb 7 _ rfl; replace y0 := M.cy 0 _ rfl; replace y1 := M.cy 1 _ rfl
          clear M
          replace E1 := HM.out.at HE1.out
          replace E2 := HM.out.at HE2.out
          have D := HB.out
          replace d0 := D.c 0 _ rfl; replace d1 := D.c 1 _ rfl; replace d2 := D.c 2 _ rfl; replace d3 := D.c 3 _ rfl; replace d4 := D.c 4 _ rfl; replace d5 := D.c 5 _ rfl; replace d6 := D.c 6 _ rfl; replace d7 := D.c 7 _ rfl
          clear D
          have fb := HM.out.fb
          have f0 := fb 0
          have f1 := fb 1
          have f2 := fb 2
          have f3 := fb 3
          have f4 := fb 4
          have f5 := fb 5
          have f6 := fb 6
          have f7 := fb 7
          clear fb
          have fy := HM.out.fy
          have g0 := fy 0
          have g1 := fy 1
          clear fy
          go_wp2_with fail
          exact hgo.out _ _ _ _ _ _ _ _ _ _ _ _ _ _ _ _ _ _ _ _ _ _ _ _ _ _ _ _ _ _ _ _ _ _ _ _ _ _ _ _ _ _ _ _ _ _ _ _ _ _ _ _ _ _ _ _ _ _ _ _ _ _ _ _ _ _ _ _ _ _ _ _ _ _ _ _ _ _ _ _ _ _ _ _ _ _ _ _ _ _ _ _ _ _ _ _ _ _ _ _ _ _ _ _ _ _ _ _ _ _ _ _ _ _ _ _ _ _ _ _ _ _ _ _ _ _ _ _ _ _ _ _ _ _ _ _ _ _ _ _ _ _ _ _ _ _ _ _ _ _ _ _ _ _ _ _ _ _ _ _ _ _ _ _ _ _ _ _ _ _ _ _ _ _ _ _ _ _ _ _ _ _ _ _ _ _ _ _ _ _ _ _ _ _ _ _ _ _ _ _ _ _ _ _ _ _ _ _ _ _ _ ⟨mq, mp, c2, c3, tk, st, rq, rp, false, by go_num, rfl, rfl, Lib.hid HC2.out.2.2.2.2.2.2, by first | exact (show Hid _ by obtain ⟨rfl, rfl, rfl, rfl, rfl, rfl, _⟩ := HC2.out; exact Lib.hid ((HM.out.storeB _ _ _ _ _ _ _ _).storeY _ _)) | exact (show Hid _ by obtain ⟨rfl, rfl, rfl, rfl, rfl, rfl, _⟩ := HC2.out; exact Lib.hid (((HM.out.drew _).storeB _ _ _ _ _ _ _ _).storeY _ _))⟩
      · rcases hbad with R | ⟨R, rfl⟩
        · obtain ⟨vv, hvv, HV2⟩ : ∃ vv : Int, (vv == 0) = false ∧ Hid (∀ W, Calls Try.prog 7 #[.agg #[.int .i64 rq, .int .i64 rp]] W fun e w' => e = .returned (.int .i64 vv) ∧ Below W.heap.size W w') := ⟨2, rfl, Lib.hid fun W => rvalid_bad rq rp W R⟩
          go_upto_region 37 with (fail)
          go_cut [219] from 48 to 241 (fun v219 wx => v219 = .bool false ∧ Hid (Mem w B (budL mq mp xq xp dy (mq - tk) st (st + mp)) [.int .i64 yq, .int .i64 yp] wx) ∧ Hid (Blk C (budL c0 c1 c2 c3 c4 c5 c6 c7) wx))
          case first =>
            refine reg37b hm hlt hvv E1 E2 HV2 (Lib.hid ?_)
            intro n206 n207 n208 n209 n210 n211 n212 n213 n214 n215 n216 n217 n218 n219 w' h hb
            dsimp only
            go_wp2_with fail
            go_meet
            exact ⟨h, Lib.hid (HM.out.call hb), Lib.hid (HB.out.call hb)⟩
          case rest =>
            clear HM HB
            obtain ⟨rfl, HM, HB⟩ := hcut
            have M := HM.out
            replace b0 := M.cb 0 _ rfl; replace b1 := M.cb 1 _ rfl; replace b2 := M.cb 2 _ rfl; replace b3 := M.cb 3 _ rfl; replace b4 := M.cb 4 _ rfl; replace b5 := M.cb 5 _ rfl; replace b6 := M.cb 6 _ rfl; replace b7 := M.cb 7 _ rfl; replace y0 := M.cy 0 _ rfl; replace y1 := M.cy 1 _ rfl
            clear M
            replace E1 := HM.out.at HE1.out
            replace E2 := HM.out.at HE2.out
            have D := HB.out
            replace d0 := D.c 0 _ rfl; replace d1 := D.c 1 _ rfl; replace d2 := D.c 2 _ rfl; replace d3 := D.c 3 _ rfl; replace d4 := D.c 4 _ rfl; replace d5 := D.c 5 _ rfl; replace d6 := D.c 6 _ rfl; replace d7 := D.c 7 _ rfl
            clear D
            go_wp2_with fail
            exact hgo.out _ _ _ _ _ _ _ _ _ _ _ _ _ _ _ _ _ _ _ _ _ _ _ _ _ _ _ _ _ _ _ _ _ _ _ _ _ _ _ _ _ _ _ _ _ _ _ _ _ _ _ _ _ _ _ _ _ _ _ _ _ _ _ _ _ _ _ _ _ _ _ _ _ _ _ _ _ _ _ _ _ _ _ _ _ _ _ _ _ _ _ _ _ _ _ _ _ _ _ _ _ _ _ _ _ _ _ _ _ _ _ _ _ _ _ _ _ _ _ _ _ _ _ _ _ _ _ _ _ _ _ _ _ _ _ _ _ _ _ _ _ _ _ _ _ _ _ _ _ _ _ _ _ _ _ _ _ _ _ _ _ _ _ _ _ _ _ _ _ _ _ _ _ _ _ _ _ _ _ _ _ _ _ _ _ _ _ _ _ _ _ _ _ _ _ _ _ _ _ _ _ _ _ _ _ _ _ _ _ _ _ ⟨mq, mp, xq, xp, tk, st, yq, yp, dy, by go_num, rfl, rfl, HP, by first | exact HM | exact Lib.hid (HM.out.drew _)⟩
        · skip
          go_upto_region 37 with (fail)
          go_cut [219] from 48 to 241 (fun v219 wx => v219 = .bool false ∧ Hid (Mem w B (budL mq mp xq xp true (mq - tk) st (st + mp)) [.int .i64 yq, .int .i64 yp] wx) ∧ Hid (Blk C (budL c0 c1 c2 c3 c4 c5 c6 c7) wx))
          case first =>
            refine reg37c hm hlt E1 E2 (Lib.hid fun W => rvalid_ok rq rp W R) (Lib.hid ?_)
            intro n206 n207 n208 n209 n210 n211 n212 n213 n214 n215 n216 n217 n218 n219 w' h hb
            dsimp only
            go_wp2_with fail
            go_meet
            exact ⟨h, Lib.hid (HM.out.call hb), Lib.hid (HB.out.call hb)⟩
          case rest =>
            clear HM HB
            obtain ⟨rfl, HM, HB⟩ := hcut
            have M := HM.out
            replace b0 := M.cb 0 _ rfl; replace b1 := M.cb 1 _ rfl; replace b2 := M.cb 2 _ rfl; replace b3 := M.cb 3 _ rfl; replace b4 := M.cb 4 _ rfl; replace b5 := M.cb 5 _ rfl; replace b6 := M.cb 6 _ rfl; replace b7 := M.cb 7 _ rfl; replace y0 := M.cy 0 _ rfl; replace y1 := M.cy 1 _ rfl
            clear M
            replace E1 := HM.out.at HE1.out
            replace E2 := HM.out.at HE2.out
            have D := HB.out
            replace d0 := D.c 0 _ rfl; replace d1 := D.c 1 _ rfl; replace d2 := D.c 2 _ rfl; replace d3 := D.c 3 _ rfl; replace d4 := D.c 4 _ rfl; replace d5 := D.c 5 _ rfl; replace d6 := D.c 6 _ rfl; replace d7 := D.c 7 _ rfl
            clear D
            go_wp2_with fail
            exact hgo.out _ _ _ _ _ _ _ _ _ _ _ _ _ _ _ _ _ _ _ _ _ _ _ _ _ _ _ _ _ _ _ _ _ _ _ _ _ _ _ _ _ _ _ _ _ _ _ _ _ _ _ _ _ _ _ _ _ _ _ _ _ _ _ _ _ _ _ _ _ _ _ _ _ _ _ _ _ _ _ _ _ _ _ _ _ _ _ _ _ _ _ _ _ _ _ _ _ _ _ _ _ _ _ _ _ _ _ _ _ _ _ _ _ _ _ _ _ _ _ _ _ _ _ _ _ _ _ _ _ _ _ _ _ _ _ _ _ _ _ _ _ _ _ _ _ _ _ _ _ _ _ _ _ _ _ _ _ _ _ _ _ _ _ _ _ _ _ _ _ _ _ _ _ _ _ _ _ _ _ _ _ _ _ _ _ _ _ _ _ _ _ _ _ _ _ _ _ _ _ _ _ _ _ _ _ _ _ _ _ _ _ ⟨mq, mp, xq, xp, tk, st, yq, yp, true, by go_num, rfl, rfl, HP, by first | exact HM | exact Lib.hid (HM.out.drew _)⟩
end Go.Proofs.Ytggcahcdhjnemaa
