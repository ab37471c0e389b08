/- The walk of BudgetPeriods: the call returns true. -/
import Derived.Test.YtggcahcdhjnemaaBudR1
import Derived.Test.YtggcahcdhjnemaaBudR2
import Derived.Test.YtggcahcdhjnemaaBudR3
set_option linter.unusedVariables false
set_option linter.unusedSimpArgs false
namespace Go.Proofs.Ytggcahcdhjnemaa
open Go.RowKit
set_option maxRecDepth 1000000

set_option maxHeartbeats 20000000 in
theorem per_ok (q p at_ : Int) (a : Option Addr) (len cap : Nat) (w : World) (hm : len ≤ maxLen) (h0 : 0 ≤ at_) (h1 : at_ ≤ 1073741824) (h : Vld q p)
    (hc : len = 0 ∨ ∃ b o, a = some ⟨b, o, none⟩ ∧ ∀ i, i < len → ∃ kd rq rp : Int, w.cell? ⟨b, o + i * 3, none⟩ = some (.int .i64 kd) ∧ w.cell? ⟨b, o + i * 3 + 1, none⟩ = some (.int .i64 rq) ∧ w.cell? ⟨b, o + i * 3 + 2, none⟩ = some (.int .i64 rp)) :
    Calls Try.prog 4 #[.agg #[.int .i64 q, .int .i64 p], .int .i64 at_, .slice a len cap] w fun e w' => e = .returned (.bool true) ∧ Below w.heap.size w w' := by
  unfold maxLen at hm
  have HC := Lib.hid hc
  clear hc
  have HB : Below w.heap.size w (w.alloc (.cells #[.int .i64 q, .int .i64 p] 23)) := ((Below.refl _ w).alloc (by simp) _)
  have k0_0 : (w.alloc (.cells #[.int .i64 q, .int .i64 p] 23)).cell? ⟨w.heap.size, 0, none⟩ = some (.int .i64 q) := by simp
  have k0_1 : (w.alloc (.cells #[.int .i64 q, .int .i64 p] 23)).cell? ⟨w.heap.size, 1, none⟩ = some (.int .i64 p) := by simp
  go_enter Try.func4, Try.ntmps4
  go_wp2_with fail
  refine (bnew_ok q p at_ _ h0 h1 h).mono ?_
  rintro e w1 ⟨rfl, hb1⟩
  replace k0_0 := keep hb1 k0_0
  replace k0_1 := keep hb1 k0_1
  replace HB := below_call HB (Nat.le_refl _) hb1
  clear hb1
  go_wp2_with fail
  obtain ⟨B, hB⟩ : ∃ B, B = w1.heap.size := ⟨_, rfl⟩
  have M0 : Mem w B (budL q p 0 0 false q at_ (at_ + p)) [.int .i64 0, .int .i64 0] ((w1.alloc (.cells #[.int .i64 q, .int .i64 p, .int .i64 0, .int .i64 0, .bool false, .int .i64 q, .int .i64 at_, .int .i64 (at_ + p)] 35)).alloc (.cells #[.int .i64 0, .int .i64 0] 23)) := by
    have hs := HB.size
    refine ⟨below_alloc (below_alloc HB (Nat.le_refl _) _) (Nat.le_refl _) _, by omega, by simp; omega, fun i v h => ?_, fun i v h => ?_, fun i => by simp only [frozen?_alloc_cells]; exact frozen_beyond _ _ _ (by omega), fun i => by simp only [frozen?_alloc_cells]; exact frozen_beyond _ _ _ (by omega)⟩
    · rw [hB, World.cell?_alloc_lt _ _ _ (by simp)]
      match i, h with
      | 0, h => cases h; simp
      | 1, h => cases h; simp
      | 2, h => cases h; simp
      | 3, h => cases h; simp
      | 4, h => cases h; simp
      | 5, h => cases h; simp
      | 6, h => cases h; simp
      | 7, h => cases h; simp
      | n + 8, h => cases h
    · rw [hB, World.cell?_alloc_at _ _ _ _ (by simp)]
      match i, h with
      | 0, h => cases h; rfl
      | 1, h => cases h; rfl
      | n + 2, h => cases h
  have HM0 := Lib.hid M0
  clear M0 k0_0 k0_1 HB
  rw [← hB]
  clear hB
  have HP0 : Hid (PI q p 0 0 0 at_ 0 0) := Lib.hid (PI.start h h0 h1)
  go_loopw [9, 10, 12] (fun vt vd vi wr => ∃ (k : Nat) (mq mp xq xp tk st yq yp : Int) (dy : Bool), k ≤ len ∧ k ≤ 200 ∧ vi = .int .i64 k ∧ vt = .int .i64 tk ∧ vd = .bool dy ∧ Hid (PI mq mp xq xp tk st yq yp) ∧ Hid (Mem w B (budL mq mp xq xp dy (mq - tk) st (st + mp)) [.int .i64 yq, .int .i64 yp] wr)) (fun _ _ i _ => 200 - (intOf i).toNat)
  case atStart => exact ⟨0, q, p, 0, 0, 0, at_, 0, 0, false, Nat.zero_le _, by omega, rfl, rfl, rfl, HP0, by rw [Int.sub_zero]; exact HM0⟩
  case round =>
    obtain ⟨k, mq, mp, xq, xp, tk, st, yq, yp, dy, hk, hk2, rfl, rfl, rfl, HP, HM⟩ := hrel
    clear HM0 HP0 h
    by_cases hlt : k < len
    · by_cases hlt2 : k < 200
      · obtain ⟨b, o, rfl, hcc⟩ : ∃ b o, a = some ⟨b, o, none⟩ ∧ ∀ i, i < len → ∃ kd rq rp : Int, w.cell? ⟨b, o + i * 3, none⟩ = some (.int .i64 kd) ∧ w.cell? ⟨b, o + i * 3 + 1, none⟩ = some (.int .i64 rq) ∧ w.cell? ⟨b, o + i * 3 + 2, none⟩ = some (.int .i64 rp) := by
          rcases HC.out with h | h
          · omega
          · exact h
        obtain ⟨kd, rq, rp, E0, E1, E2⟩ := hcc k hlt
        have HE0 := Lib.hid E0; have HE1 := Lib.hid E1; have HE2 := Lib.hid E2
        clear hcc E0 E1 E2
        by_cases K0 : kd = 0
        · refine wp_ret (pc_0 hm hlt hlt2 HP HM HE0 HE1 HE2 (Lib.hid ?_) (Lib.hid ?_) K0)
          · intro n6 n9 n10 n12 n13 n14 n15 n16 n17 n18 n19 n20 n21 n22 n23 n24 n48 n49 n50 n51 n52 n53 n54 n55 n56 n57 n58 n59 n60 n61 n62 n63 n64 n65 n66 n67 n68 n69 n70 n71 n72 n73 n74 n75 n76 n77 n78 n79 n80 n81 n82 n83 n84 n85 n86 n87 n88 n89 n90 n91 n92 n93 n94 n95 n96 n97 n98 n99 n100 n101 n102 n103 n104 n105 n106 n107 n108 n109 n110 n111 n112 n113 n114 n115 n116 n117 n118 n119 n120 n121 n122 n123 n124 n125 n126 n127 n128 n129 n130 n131 n132 n133 n134 n135 n136 n137 n138 n139 n140 n141 n142 n143 n144 n145 n146 n147 n148 n149 n150 n151 n152 n153 n154 n155 n156 n157 n158 n159 n160 n161 n162 n163 n164 n165 n166 n167 n168 n169 n170 n171 n172 n173 n174 n175 n176 n177 n178 n179 n180 n181 n182 n183 n184 n185 n186 n187 n188 n189 n190 n191 n192 n193 n194 n195 n196 n197 n198 n199 n200 n201 n202 n203 n204 n205 n206 n207 n208 n209 n210 n211 n212 n213 n214 n215 n216 n217 n218 n219 n220 n221 n222 n223 n224 n225 n226 n227 n228 n229 n230 n231 n232 n233 n234 n235 n236 n237 n238 n239 n240 n241 w'' hr
            obtain ⟨mq, mp, xq, xp, tk, st, yq, yp, dy, rfl, rfl, rfl, hp, hmm⟩ := hr
            exact ⟨⟨n6, _, _, _, n13, n14, n15, n16, n17, n18, n19, n20, n21, n22, n23, n24, n48, n49, n50, n51, n52, n53, n54, n55, n56, n57, n58, n59, n60, n61, n62, n63, n64, n65, n66, n67, n68, n69, n70, n71, n72, n73, n74, n75, n76, n77, n78, n79, n80, n81, n82, n83, n84, n85, n86, n87, n88, n89, n90, n91, n92, n93, n94, n95, n96, n97, n98, n99, n100, n101, n102, n103, n104, n105, n106, n107, n108, n109, n110, n111, n112, n113, n114, n115, n116, n117, n118, n119, n120, n121, n122, n123, n124, n125, n126, n127, n128, n129, n130, n131, n132, n133, n134, n135, n136, n137, n138, n139, n140, n141, n142, n143, n144, n145, n146, n147, n148, n149, n150, n151, n152, n153, n154, n155, n156, n157, n158, n159, n160, n161, n162, n163, n164, n165, n166, n167, n168, n169, n170, n171, n172, n173, n174, n175, n176, n177, n178, n179, n180, n181, n182, n183, n184, n185, n186, n187, n188, n189, n190, n191, n192, n193, n194, n195, n196, n197, n198, n199, n200, n201, n202, n203, n204, n205, n206, n207, n208, n209, n210, n211, n212, n213, n214, n215, n216, n217, n218, n219, n220, n221, n222, n223, n224, n225, n226, n227, n228, n229, n230, n231, n232, n233, n234, n235, n236, n237, n238, n239, n240, n241, ⟨k + 1, mq, mp, xq, xp, tk, st, yq, yp, dy, by omega, by omega, rfl, rfl, rfl, hp, hmm⟩, rfl⟩, by simp [intOf]; omega⟩
          · intro a' w'' h1 h2 hb
            show bodyPost _ _ (fun e w' => e = .returned (.bool true) ∧ Below w.heap.size w w') .ret a' w''
            refine bodyPost_ret (v := .bool true) (by simp at h1; simp [results, Try.f4, go_sem, h1]) h2 ⟨rfl, hb⟩
        · by_cases K1 : kd = 1
          · refine wp_ret (pc_1 hm hlt hlt2 HP HM HE0 HE1 HE2 (Lib.hid ?_) (Lib.hid ?_) K1)
            · intro n6 n9 n10 n12 n13 n14 n15 n16 n17 n18 n19 n20 n21 n22 n23 n24 n48 n49 n50 n51 n52 n53 n54 n55 n56 n57 n58 n59 n60 n61 n62 n63 n64 n65 n66 n67 n68 n69 n70 n71 n72 n73 n74 n75 n76 n77 n78 n79 n80 n81 n82 n83 n84 n85 n86 n87 n88 n89 n90 n91 n92 n93 n94 n95 n96 n97 n98 n99 n100 n101 n102 n103 n104 n105 n106 n107 n108 n109 n110 n111 n112 n113 n114 n115 n116 n117 n118 n119 n120 n121 n122 n123 n124 n125 n126 n127 n128 n129 n130 n131 n132 n133 n134 n135 n136 n137 n138 n139 n140 n141 n142 n143 n144 n145 n146 n147 n148 n149 n150 n151 n152 n153 n154 n155 n156 n157 n158 n159 n160 n161 n162 n163 n164 n165 n166 n167 n168 n169 n170 n171 n172 n173 n174 n175 n176 n177 n178 n179 n180 n181 n182 n183 n184 n185 n186 n187 n188 n189 n190 n191 n192 n193 n194 n195 n196 n197 n198 n199 n200 n201 n202 n203 n204 n205 n206 n207 n208 n209 n210 n211 n212 n213 n214 n215 n216 n217 n218 n219 n220 n221 n222 n223 n224 n225 n226 n227 n228 n229 n230 n231 n232 n233 n234 n235 n236 n237 n238 n239 n240 n241 w'' hr
              obtain ⟨mq, mp, xq, xp, tk, st, yq, yp, dy, rfl, rfl, rfl, hp, hmm⟩ := hr
              exact ⟨⟨n6, _, _, _, n13, n14, n15, n16, n17, n18, n19, n20, n21, n22, n23, n24, n48, n49, n50, n51, n52, n53, n54, n55, n56, n57, n58, n59, n60, n61, n62, n63, n64, n65, n66, n67, n68, n69, n70, n71, n72, n73, n74, n75, n76, n77, n78, n79, n80, n81, n82, n83, n84, n85, n86, n87, n88, n89, n90, n91, n92, n93, n94, n95, n96, n97, n98, n99, n100, n101, n102, n103, n104, n105, n106, n107, n108, n109, n110, n111, n112, n113, n114, n115, n116, n117, n118, n119, n120, n121, n122, n123, n124, n125, n126, n127, n128, n129, n130, n131, n132, n133, n134, n135, n136, n137, n138, n139, n140, n141, n142, n143, n144, n145, n146, n147, n148, n149, n150, n151, n152, n153, n154, n155, n156, n157, n158, n159, n160, n161, n162, n163, n164, n165, n166, n167, n168, n169, n170, n171, n172, n173, n174, n175, n176, n177, n178, n179, n180, n181, n182, n183, n184, n185, n186, n187, n188, n189, n190, n191, n192, n193, n194, n195, n196, n197, n198, n199, n200, n201, n202, n203, n204, n205, n206, n207, n208, n209, n210, n211, n212, n213, n214, n215, n216, n217, n218, n219, n220, n221, n222, n223, n224, n225, n226, n227, n228, n229, n230, n231, n232, n233, n234, n235, n236, n237, n238, n239, n240, n241, ⟨k + 1, mq, mp, xq, xp, tk, st, yq, yp, dy, by omega, by omega, rfl, rfl, rfl, hp, hmm⟩, rfl⟩, by simp [intOf]; omega⟩
            · intro a' w'' h1 h2 hb
              show bodyPost _ _ (fun e w' => e = .returned (.bool true) ∧ Below w.heap.size w w') .ret a' w''
              refine bodyPost_ret (v := .bool true) (by simp at h1; simp [results, Try.f4, go_sem, h1]) h2 ⟨rfl, hb⟩
          · refine wp_ret (pc_2 hm hlt hlt2 HP HM HE0 HE1 HE2 (Lib.hid ?_) (Lib.hid ?_) K0 K1)
            · intro n6 n9 n10 n12 n13 n14 n15 n16 n17 n18 n19 n20 n21 n22 n23 n24 n48 n49 n50 n51 n52 n53 n54 n55 n56 n57 n58 n59 n60 n61 n62 n63 n64 n65 n66 n67 n68 n69 n70 n71 n72 n73 n74 n75 n76 n77 n78 n79 n80 n81 n82 n83 n84 n85 n86 n87 n88 n89 n90 n91 n92 n93 n94 n95 n96 n97 n98 n99 n100 n101 n102 n103 n104 n105 n106 n107 n108 n109 n110 n111 n112 n113 n114 n115 n116 n117 n118 n119 n120 n121 n122 n123 n124 n125 n126 n127 n128 n129 n130 n131 n132 n133 n134 n135 n136 n137 n138 n139 n140 n141 n142 n143 n144 n145 n146 n147 n148 n149 n150 n151 n152 n153 n154 n155 n156 n157 n158 n159 n160 n161 n162 n163 n164 n165 n166 n167 n168 n169 n170 n171 n172 n173 n174 n175 n176 n177 n178 n179 n180 n181 n182 n183 n184 n185 n186 n187 n188 n189 n190 n191 n192 n193 n194 n195 n196 n197 n198 n199 n200 n201 n202 n203 n204 n205 n206 n207 n208 n209 n210 n211 n212 n213 n214 n215 n216 n217 n218 n219 n220 n221 n222 n223 n224 n225 n226 n227 n228 n229 n230 n231 n232 n233 n234 n235 n236 n237 n238 n239 n240 n241 w'' hr
              obtain ⟨mq, mp, xq, xp, tk, st, yq, yp, dy, rfl, rfl, rfl, hp, hmm⟩ := hr
              exact ⟨⟨n6, _, _, _, n13, n14, n15, n16, n17, n18, n19, n20, n21, n22, n23, n24, n48, n49, n50, n51, n52, n53, n54, n55, n56, n57, n58, n59, n60, n61, n62, n63, n64, n65, n66, n67, n68, n69, n70, n71, n72, n73, n74, n75, n76, n77, n78, n79, n80, n81, n82, n83, n84, n85, n86, n87, n88, n89, n90, n91, n92, n93, n94, n95, n96, n97, n98, n99, n100, n101, n102, n103, n104, n105, n106, n107, n108, n109, n110, n111, n112, n113, n114, n115, n116, n117, n118, n119, n120, n121, n122, n123, n124, n125, n126, n127, n128, n129, n130, n131, n132, n133, n134, n135, n136, n137, n138, n139, n140, n141, n142, n143, n144, n145, n146, n147, n148, n149, n150, n151, n152, n153, n154, n155, n156, n157, n158, n159, n160, n161, n162, n163, n164, n165, n166, n167, n168, n169, n170, n171, n172, n173, n174, n175, n176, n177, n178, n179, n180, n181, n182, n183, n184, n185, n186, n187, n188, n189, n190, n191, n192, n193, n194, n195, n196, n197, n198, n199, n200, n201, n202, n203, n204, n205, n206, n207, n208, n209, n210, n211, n212, n213, n214, n215, n216, n217, n218, n219, n220, n221, n222, n223, n224, n225, n226, n227, n228, n229, n230, n231, n232, n233, n234, n235, n236, n237, n238, n239, n240, n241, ⟨k + 1, mq, mp, xq, xp, tk, st, yq, yp, dy, by omega, by omega, rfl, rfl, rfl, hp, hmm⟩, rfl⟩, by simp [intOf]; omega⟩
            · intro a' w'' h1 h2 hb
              show bodyPost _ _ (fun e w' => e = .returned (.bool true) ∧ Below w.heap.size w w') .ret a' w''
              refine bodyPost_ret (v := .bool true) (by simp at h1; simp [results, Try.f4, go_sem, h1]) h2 ⟨rfl, hb⟩
      · have c1 : decide ((k : Int) < (len : Int)) = true := by simp; omega
        have c2 : decide ((k : Int) < 200) = false := by simp; omega
        go_wp2_with fail
        refine (sure07 _).mono ?_
        rintro e w2 ⟨rfl, hb⟩
        replace HM := Lib.hid (HM.out.call hb)
        go_wp2
        go_ret
        exact ⟨rfl, HM.out.below⟩
    · have c1 : decide ((k : Int) < (len : Int)) = false := by simp; omega
      go_wp2_with fail
      refine (sure07 _).mono ?_
      rintro e w2 ⟨rfl, hb⟩
      replace HM := Lib.hid (HM.out.call hb)
      go_wp2
      go_ret
      exact ⟨rfl, HM.out.below⟩
end Go.Proofs.Ytggcahcdhjnemaa
