/- tithelaw04.alike: its first test. -/
import Derived.Shelf.RegionOpenPlain
import Derived.Test.YtahaclglkbgpcaaFqRf
set_option linter.unusedVariables false
set_option linter.unusedSimpArgs false
namespace Go.Proofs.Ytahaclglkbgpcaa
open Go.RowKit Go.Shelf
set_option maxRecDepth 100000

theorem same_rl {w W : World} {B B' n c c9 : Nat} {a a9 : Option Addr} {zs : List Int} (hown : W.ownsRow B 3 1 (.slice a9 n c9) n (zs.map (Value.int .i64))) (hR : RL W B' a n c zs) (hn : n ≤ 4096) :
    Calls Try.prog 19 #[.slice a9 n c9, .slice a n c] W fun e W' => e = .returned (.bool true) ∧ Below W.heap.size W W' := by
  have key : ∀ {B : Nat} {a : Option Addr} {c : Nat}, W.ownsRow B 3 1 (.slice a n c) n (zs.map (Value.int .i64)) → n = 0 ∨ ∃ g o, a = some ⟨g, o, none⟩ ∧ ∀ i, i < n → W.cell? ⟨g, o + i, none⟩ = some (.int .i64 (zs.getD i 0)) := by
    intro B a c h
    by_cases h0 : n = 0
    · exact .inl h0
    · obtain ⟨g, c2, e, _⟩ := h.form (by omega)
      simp only [Value.slice.injEq, true_and] at e
      obtain ⟨rfl, rfl⟩ := e
      refine .inr ⟨g, 0, rfl, fun i hi => ?_⟩
      rw [Nat.zero_add, h.cellAt i (by omega)]
      have : i < zs.length := by have := hR.len; omega
      simp [List.getD, this]
  exact same_t a9 a n c9 c (fun i => zs.getD i 0) W (by omega) (key hown) (key hR.own)


noncomputable def testA : Code := ((Try.f30.body.bind (findReg 2)).getD .skip)

def opsOf : Code → Array Oper
  | .region _ ops _ => ops
  | _ => #[]
noncomputable def opsA : Array Oper := opsOf testA

set_option maxHeartbeats 4000000 in
theorem alike_test {x1 x2 x6 x7 x8 x9 x10 x11 x12 x13 x14 x15 x16 x17 x18 x19 x20 x21 x22 x23 x24 x25 x26 x27 x28 x29 x30 x31 x32 x33 x34 x35 x36 x37 x38 x39 x40 x41 x42 x43 x44 x45 x46 x47 x48 x49 x50 x51 x52 x53 x54 x55 x56 x57 x58 x59 x60 x61 x62 x63 x64 x65 x66 x67 x68 x69 x70 x71 x72 x73 x74 x75 x76 x77 x78 x79 x80 x81 x82 x83 x84 x85 x86 x87 : Value} {q lim n c : Nat} {a : Option Addr} {zs : List Int} {S : Nat → Prop} {w W0 : World} {K : Act → World → Prop} {Q : Exit → Act → World → Prop} (HQ : Hid (Qu IsI 84 3 w q lim (zs.map (Value.int .i64)) S)) (HR : Hid (RL w 0 a n c zs)) (HLZ : Hid (n = zs.length)) (hn4 : n ≤ 4096) (hnl : n ≤ lim) (hl4 : lim ≤ 4096) (HX : Hid (AB w q lim n c a W0))
    (hK : Hid (∀ (n16 n17 n18 n19 n20 n21 n22 n23 n24 n25 n26 n27 n28 n29 n30 n31 n32 n33 n34 n35 n36 n37 n38 n39 n40 n41 n42 n43 : Value) (W' : World), n43 = .bool false → AB w q lim n c a W' → W0.heap.size ≤ W'.heap.size → K ⟨#[.pointer (some ⟨q, 0, none⟩), x1, x2, .pointer (some ⟨w.heap.size, 0, none⟩), .pointer (some ⟨w.heap.size + 1, 0, none⟩), .pointer (some ⟨w.heap.size + 2, 0, none⟩), x6, x7, x8, x9, x10, x11, x12, x13, x14, x15, n16, n17, n18, n19, n20, n21, n22, n23, n24, n25, n26, n27, n28, n29, n30, n31, n32, n33, n34, n35, n36, n37, n38, n39, n40, n41, n42, n43, x44, x45, x46, x47, x48, x49, x50, x51, x52, x53, x54, x55, x56, x57, x58, x59, x60, x61, x62, x63, x64, x65, x66, x67, x68, x69, x70, x71, x72, x73, x74, x75, x76, x77, x78, x79, x80, x81, x82, x83, x84, x85, x86, x87], []⟩ W')) :
    testA.wp Try.prog (Exit.then K Q) ⟨#[.pointer (some ⟨q, 0, none⟩), x1, x2, .pointer (some ⟨w.heap.size, 0, none⟩), .pointer (some ⟨w.heap.size + 1, 0, none⟩), .pointer (some ⟨w.heap.size + 2, 0, none⟩), x6, x7, x8, x9, x10, x11, x12, x13, x14, x15, x16, x17, x18, x19, x20, x21, x22, x23, x24, x25, x26, x27, x28, x29, x30, x31, x32, x33, x34, x35, x36, x37, x38, x39, x40, x41, x42, x43, x44, x45, x46, x47, x48, x49, x50, x51, x52, x53, x54, x55, x56, x57, x58, x59, x60, x61, x62, x63, x64, x65, x66, x67, x68, x69, x70, x71, x72, x73, x74, x75, x76, x77, x78, x79, x80, x81, x82, x83, x84, x85, x86, x87], []⟩ W0 := by
  conv => arg 2; whnf
  dsimp only
  have CQ : ∀ W, AB w q lim n c a W → Qu IsI 84 3 W q lim (zs.map (Value.int .i64)) S := fun W h => HQ.out.below h.below
  have C2 : ∀ W, AB w q lim n c a W → W.cell? ⟨q, 2, none⟩ = some (.int .i64 (n : Int)) := fun W h => by have := (CQ W h).c2; rw [List.length_map, ← HLZ.out] at this; exact this
  have CN : ∀ W, AB w q lim n c a W → Calls Try.prog 12 #[.pointer (some ⟨q, 0, none⟩)] W fun e w' => e = .returned (.int .i64 (n : Int)) ∧ W = w' := fun W h => len_ok q n W (C2 W h)
  have CR : ∀ W, AB w q lim n c a W → Calls Try.prog 13 #[.pointer (some ⟨q, 0, none⟩)] W fun e w' => e = .returned (.int .i64 ((lim : Int) - (n : Int))) ∧ W = w' := fun W h => by
    have := room_ok q n lim W (C2 W h) (CQ W h).c3 hnl hl4
    rw [show (((lim - n : Nat)) : Int) = (lim : Int) - (n : Int) by omega] at this
    exact this
  have CL : ∀ W, AB w q lim n c a W → Calls Try.prog 18 #[.pointer (some ⟨q, 0, none⟩)] W fun e w' => e = .returned (.int .i64 (lim : Int)) ∧ W = w' := fun W h => limit_ok q _ W (CQ W h).c3
  have CI : ∀ W, AB w q lim n c a W → Calls Try.prog 14 #[.pointer (some ⟨q, 0, none⟩)] W fun e w' => ∃ a9 c9, e = .returned (.slice a9 n c9) ∧ w'.ownsRow W.heap.size 3 1 (.slice a9 n c9) n (zs.map (Value.int .i64)) ∧ Below W.heap.size W w' := fun W h => by
    have := list_qu _ (CQ W h)
    rw [List.length_map, ← HLZ.out] at this
    refine this.mono ?_
    rintro e w' ⟨v, rfl, h1, h2⟩
    obtain ⟨a9, c9, rfl⟩ := owns_shape h1
    exact ⟨a9, c9, rfl, h1, h2⟩
  have HCN := Lib.hid CN; have HCR := Lib.hid CR; have HCL := Lib.hid CL; have HCI := Lib.hid CI
  clear CQ C2 CN CR CL CI
  have m0 := HX.out.m0; have m1 := HX.out.m1; have n0 := HX.out.n0
  have hwr : IntKind.i64.wrap ((lim : Int) - (n : Int)) = (lim : Int) - (n : Int) := by simp [IntKind.wrap, IntKind.bits, IntKind.signed]; omega
  have mixed : Try.prog.follows Departure.mixedOrders = true := by kernel_rfl
  refine wp_calm2 ?_
  -- the steps
  have M4 : ∀ (w1 : World) (a9 : Option Addr) (c9 : Nat), Hid (AB w q lim n c a w1) → W0.heap.size ≤ w1.heap.size → Hid (Calls Try.prog 19 #[.slice a9 n c9, .slice a n c] w1 fun e W' => e = .returned (.bool true) ∧ Below w1.heap.size w1 W') → wpAny Try.prog Region.Mode.any opsA (Exit.then K (fun _ _ _ => False)) 3 #[true, true, true, true, true, true, true, true, true, true, true, true, true, true, true, true, true, true, true, true, true, true, true, true, true, false, false, false] ⟨#[.pointer (some ⟨q, 0, none⟩), x1, x2, .pointer (some ⟨w.heap.size, 0, none⟩), .pointer (some ⟨w.heap.size + 1, 0, none⟩), .pointer (some ⟨w.heap.size + 2, 0, none⟩), x6, x7, x8, x9, x10, x11, x12, x13, x14, x15, .pointer (some ⟨q, 0, none⟩), .int .i64 (n : Int), .int .i64 (n : Int), .bool false, .bool false, .pointer (some ⟨q, 0, none⟩), .int .i64 ((lim : Int) - (n : Int)), .pointer (some ⟨w.heap.size, 0, none⟩), .int .i64 (lim : Int), .int .i64 (n : Int), .int .i64 ((lim : Int) - (n : Int)), .bool false, .bool false, .bool false, .pointer (some ⟨q, 0, none⟩), .int .i64 (lim : Int), .pointer (some ⟨w.heap.size, 0, none⟩), .int .i64 (lim : Int), .bool false, .bool false, .bool false, .pointer (some ⟨q, 0, none⟩), .slice a9 n c9, .pointer (some ⟨w.heap.size, 1, none⟩), .slice a n c, x41, x42, x43, x44, x45, x46, x47, x48, x49, x50, x51, x52, x53, x54, x55, x56, x57, x58, x59, x60, x61, x62, x63, x64, x65, x66, x67, x68, x69, x70, x71, x72, x73, x74, x75, x76, x77, x78, x79, x80, x81, x82, x83, x84, x85, x86, x87], []⟩ w1 := by
    intro w1 a9 c9 HX1 hs1 HSM
    conv => arg 3; whnf
    refine wpAny_ready (rs := [25]) (by kernel_rfl) (by simp) ?_
    refine AllReady.cons rfl (fun K0 hK0 => ?_) AllReady.nil
    go_simp
    go_wp2_with (go_at_call 19; refine HSM.out.mono ?_; rintro e w2 ⟨rfl, hb⟩; have HX2 := Lib.hid (HX1.out.call hb); have hs2 : W0.heap.size ≤ w2.heap.size := Nat.le_trans hs1 hb.size; clear hb)
    refine wpAny_take (i := 26) (v := .bool false) rfl (by kernel_rfl) (by kernel_rfl) (by kernel_rfl) (fun _ _ _ h => h) (Or.inl ⟨by rfl, by intro w; go_simp⟩) ?_
    refine wpAny_take (i := 27) (v := .bool false) rfl (by kernel_rfl) (by kernel_rfl) (by kernel_rfl) (fun _ _ _ h => h) (Or.inl ⟨by rfl, by intro w; go_simp⟩) ?_
    refine wpAny_done (by kernel_rfl) ?_ _
    exact hK.out _ _ _ _ _ _ _ _ _ _ _ _ _ _ _ _ _ _ _ _ _ _ _ _ _ _ _ _ _ rfl HX2.out hs2
  have M3 : wpAny Try.prog Region.Mode.any opsA (Exit.then K (fun _ _ _ => False)) 10 #[true, true, true, true, true, true, true, true, true, true, true, true, true, true, true, true, true, true, false, false, false, false, false, false, false, false, false, false] ⟨#[.pointer (some ⟨q, 0, none⟩), x1, x2, .pointer (some ⟨w.heap.size, 0, none⟩), .pointer (some ⟨w.heap.size + 1, 0, none⟩), .pointer (some ⟨w.heap.size + 2, 0, none⟩), x6, x7, x8, x9, x10, x11, x12, x13, x14, x15, .pointer (some ⟨q, 0, none⟩), .int .i64 (n : Int), .int .i64 (n : Int), .bool false, .bool false, .pointer (some ⟨q, 0, none⟩), .int .i64 ((lim : Int) - (n : Int)), .pointer (some ⟨w.heap.size, 0, none⟩), .int .i64 (lim : Int), .int .i64 (n : Int), .int .i64 ((lim : Int) - (n : Int)), .bool false, .bool false, .bool false, .pointer (some ⟨q, 0, none⟩), .int .i64 (lim : Int), .pointer (some ⟨w.heap.size, 0, none⟩), .int .i64 (lim : Int), x34, x35, x36, x37, x38, x39, x40, x41, x42, x43, x44, x45, x46, x47, x48, x49, x50, x51, x52, x53, x54, x55, x56, x57, x58, x59, x60, x61, x62, x63, x64, x65, x66, x67, x68, x69, x70, x71, x72, x73, x74, x75, x76, x77, x78, x79, x80, x81, x82, x83, x84, x85, x86, x87], []⟩ W0.drew := by
    conv => arg 3; whnf
    refine wpAny_take (i := 18) (v := .bool false) rfl (by kernel_rfl) (by kernel_rfl) (by kernel_rfl) (fun _ _ _ h => h) (Or.inl ⟨by rfl, by intro w; go_simp⟩) ?_
    refine wpAny_take (i := 19) (v := .bool false) rfl (by kernel_rfl) (by kernel_rfl) (by kernel_rfl) (fun _ _ _ h => h) (Or.inl ⟨by rfl, by intro w; go_simp⟩) ?_
    refine wpAny_take (i := 20) (v := .bool false) rfl (by kernel_rfl) (by kernel_rfl) (by kernel_rfl) (fun _ _ _ h => h) (Or.inl ⟨by rfl, by intro w; go_simp⟩) ?_
    refine wpAny_take (i := 21) (v := .pointer (some ⟨q, 0, none⟩)) rfl (by kernel_rfl) (by kernel_rfl) (by kernel_rfl) (fun _ _ _ h => h) (Or.inl ⟨by rfl, by intro w; go_simp⟩) ?_
    refine wpAny_take (i := 23) (v := .pointer (some ⟨w.heap.size, 1, none⟩)) rfl (by kernel_rfl) (by kernel_rfl) (by kernel_rfl) (fun _ _ _ h => h) (Or.inl ⟨by rfl, by intro w; go_simp⟩) ?_
    refine wpAny_ready (rs := [22, 24]) (by kernel_rfl) (by simp) ?_
    refine AllReady.cons rfl (fun K1 hK1 => ?_) ?_
    · go_simp
      go_wp2_with (go_at_call 14; refine (HCI.out _ (by first | exact HX.out.drew | exact HX.out)).mono ?_; rintro e w1 ⟨a9, c9, rfl, hown, hb⟩; have HX1 := Lib.hid (AB.call (by first | exact HX.out.drew | exact HX.out) hb); have hs1 : W0.heap.size ≤ w1.heap.size := hb.size; have HSM := Lib.hid (same_rl (w := w) hown (HR.out.below HX1.out.below) hn4); have m10 := HX1.out.m0; have m11 := HX1.out.m1; have n10 := HX1.out.n0; clear hown hb)
      refine wpAny_ready (rs := [24]) (by kernel_rfl) (by simp) ?_
      refine AllReady.cons rfl (fun K2 hK2 => ?_) AllReady.nil
      go_simp
      refine hK2 _ _ ?_
      exact M4 w1 a9 c9 HX1 hs1 HSM
    refine AllReady.cons rfl (fun K3 hK3 => ?_) AllReady.nil
    go_simp
    refine hK3 _ _ ?_
    refine wpAny_ready (rs := [22]) (by kernel_rfl) (by simp) ?_
    refine AllReady.cons rfl (fun K4 hK4 => ?_) AllReady.nil
    go_simp
    go_wp2_with (go_at_call 14; refine (HCI.out _ (by first | exact HX.out.drew | exact HX.out)).mono ?_; rintro e w1 ⟨a9, c9, rfl, hown, hb⟩; have HX1 := Lib.hid (AB.call (by first | exact HX.out.drew | exact HX.out) hb); have hs1 : W0.heap.size ≤ w1.heap.size := hb.size; have HSM := Lib.hid (same_rl (w := w) hown (HR.out.below HX1.out.below) hn4); have m10 := HX1.out.m0; have m11 := HX1.out.m1; have n10 := HX1.out.n0; clear hown hb)
    exact M4 w1 a9 c9 HX1 hs1 HSM
  have M2 : wpAny Try.prog Region.Mode.any opsA (Exit.then K (fun _ _ _ => False)) 17 #[true, true, true, true, true, true, true, true, true, true, true, false, false, false, false, false, false, false, false, false, false, false, false, false, false, false, false, false] ⟨#[.pointer (some ⟨q, 0, none⟩), x1, x2, .pointer (some ⟨w.heap.size, 0, none⟩), .pointer (some ⟨w.heap.size + 1, 0, none⟩), .pointer (some ⟨w.heap.size + 2, 0, none⟩), x6, x7, x8, x9, x10, x11, x12, x13, x14, x15, .pointer (some ⟨q, 0, none⟩), .int .i64 (n : Int), .int .i64 (n : Int), .bool false, .bool false, .pointer (some ⟨q, 0, none⟩), .int .i64 ((lim : Int) - (n : Int)), .pointer (some ⟨w.heap.size, 0, none⟩), .int .i64 (lim : Int), .int .i64 (n : Int), .int .i64 ((lim : Int) - (n : Int)), x27, x28, x29, x30, x31, x32, x33, x34, x35, x36, x37, x38, x39, x40, x41, x42, x43, x44, x45, x46, x47, x48, x49, x50, x51, x52, x53, x54, x55, x56, x57, x58, x59, x60, x61, x62, x63, x64, x65, x66, x67, x68, x69, x70, x71, x72, x73, x74, x75, x76, x77, x78, x79, x80, x81, x82, x83, x84, x85, x86, x87], []⟩ W0.drew := by
    conv => arg 3; whnf
    refine wpAny_take (i := 11) (v := .bool false) rfl (by kernel_rfl) (by kernel_rfl) (by kernel_rfl) (fun _ _ _ h => h) (Or.inl ⟨by rfl, by intro w; go_simp⟩) ?_
    refine wpAny_take (i := 12) (v := .bool false) rfl (by kernel_rfl) (by kernel_rfl) (by kernel_rfl) (fun _ _ _ h => h) (Or.inl ⟨by rfl, by intro w; go_simp⟩) ?_
    refine wpAny_take (i := 13) (v := .bool false) rfl (by kernel_rfl) (by kernel_rfl) (by kernel_rfl) (fun _ _ _ h => h) (Or.inl ⟨by rfl, by intro w; go_simp⟩) ?_
    refine wpAny_take (i := 14) (v := .pointer (some ⟨q, 0, none⟩)) rfl (by kernel_rfl) (by kernel_rfl) (by kernel_rfl) (fun _ _ _ h => h) (Or.inl ⟨by rfl, by intro w; go_simp⟩) ?_
    refine wpAny_take (i := 16) (v := .pointer (some ⟨w.heap.size, 0, none⟩)) rfl (by kernel_rfl) (by kernel_rfl) (by kernel_rfl) (fun _ _ _ h => h) (Or.inl ⟨by rfl, by intro w; go_simp⟩) ?_
    refine wpAny_ready (rs := [15, 17]) (by kernel_rfl) (by simp) ?_
    refine AllReady.cons rfl (fun K5 hK5 => ?_) ?_
    · go_simp
      go_wp2_with (go_at_call 18; refine (HCL.out _ (by first | exact HX.out.drew | exact HX.out)).mono ?_; rintro e w' ⟨rfl, rfl⟩)
      refine wpAny_ready (rs := [17]) (by kernel_rfl) (by simp) ?_
      refine AllReady.cons rfl (fun K6 hK6 => ?_) AllReady.nil
      go_simp
      refine hK6 _ _ ?_
      exact M3
    refine AllReady.cons rfl (fun K7 hK7 => ?_) AllReady.nil
    go_simp
    refine hK7 _ _ ?_
    refine wpAny_ready (rs := [15]) (by kernel_rfl) (by simp) ?_
    refine AllReady.cons rfl (fun K8 hK8 => ?_) AllReady.nil
    go_simp
    go_wp2_with (go_at_call 18; refine (HCL.out _ (by first | exact HX.out.drew | exact HX.out)).mono ?_; rintro e w' ⟨rfl, rfl⟩)
    exact M3
  have M1 : wpAny Try.prog Region.Mode.any opsA (Exit.then K (fun _ _ _ => False)) 25 #[true, true, true, false, false, false, false, false, false, false, false, false, false, false, false, false, false, false, false, false, false, false, false, false, false, false, false, false] ⟨#[.pointer (some ⟨q, 0, none⟩), x1, x2, .pointer (some ⟨w.heap.size, 0, none⟩), .pointer (some ⟨w.heap.size + 1, 0, none⟩), .pointer (some ⟨w.heap.size + 2, 0, none⟩), x6, x7, x8, x9, x10, x11, x12, x13, x14, x15, .pointer (some ⟨q, 0, none⟩), .int .i64 (n : Int), .int .i64 (n : Int), x19, x20, x21, x22, x23, x24, x25, x26, x27, x28, x29, x30, x31, x32, x33, x34, x35, x36, x37, x38, x39, x40, x41, x42, x43, x44, x45, x46, x47, x48, x49, x50, x51, x52, x53, x54, x55, x56, x57, x58, x59, x60, x61, x62, x63, x64, x65, x66, x67, x68, x69, x70, x71, x72, x73, x74, x75, x76, x77, x78, x79, x80, x81, x82, x83, x84, x85, x86, x87], []⟩ W0.drew := by
    conv => arg 3; whnf
    refine wpAny_take (i := 3) (v := .bool false) rfl (by kernel_rfl) (by kernel_rfl) (by kernel_rfl) (fun _ _ _ h => h) (Or.inl ⟨by rfl, by intro w; go_simp⟩) ?_
    refine wpAny_take (i := 4) (v := .bool false) rfl (by kernel_rfl) (by kernel_rfl) (by kernel_rfl) (fun _ _ _ h => h) (Or.inl ⟨by rfl, by intro w; go_simp⟩) ?_
    refine wpAny_take (i := 5) (v := .pointer (some ⟨q, 0, none⟩)) rfl (by kernel_rfl) (by kernel_rfl) (by kernel_rfl) (fun _ _ _ h => h) (Or.inl ⟨by rfl, by intro w; go_simp⟩) ?_
    refine wpAny_take (i := 7) (v := .pointer (some ⟨w.heap.size, 0, none⟩)) rfl (by kernel_rfl) (by kernel_rfl) (by kernel_rfl) (fun _ _ _ h => h) (Or.inl ⟨by rfl, by intro w; go_simp⟩) ?_
    refine wpAny_ready (rs := [6, 8, 9]) (by kernel_rfl) (by simp) ?_
    refine AllReady.cons rfl (fun K9 hK9 => ?_) ?_
    · go_simp
      go_wp2_with (go_at_call 13; refine (HCR.out _ (by first | exact HX.out.drew | exact HX.out)).mono ?_; rintro e w' ⟨rfl, rfl⟩)
      refine wpAny_ready (rs := [8, 9]) (by kernel_rfl) (by simp) ?_
      refine AllReady.cons rfl (fun K10 hK10 => ?_) ?_
      · go_simp
        refine hK10 _ _ ?_
        refine wpAny_ready (rs := [9]) (by kernel_rfl) (by simp) ?_
        refine AllReady.cons rfl (fun K11 hK11 => ?_) AllReady.nil
        go_simp
        refine hK11 _ _ ?_
        refine wpAny_take (i := 10) (v := .int .i64 ((lim : Int) - (n : Int))) rfl (by kernel_rfl) (by kernel_rfl) (by kernel_rfl) (fun _ _ _ h => h) (Or.inl ⟨by rfl, by intro w; go_simp⟩) ?_
        exact M2
      refine AllReady.cons rfl (fun K12 hK12 => ?_) AllReady.nil
      go_simp
      refine hK12 _ _ ?_
      refine wpAny_ready (rs := [8]) (by kernel_rfl) (by simp) ?_
      refine AllReady.cons rfl (fun K13 hK13 => ?_) AllReady.nil
      go_simp
      refine hK13 _ _ ?_
      refine wpAny_take (i := 10) (v := .int .i64 ((lim : Int) - (n : Int))) rfl (by kernel_rfl) (by kernel_rfl) (by kernel_rfl) (fun _ _ _ h => h) (Or.inl ⟨by rfl, by intro w; go_simp⟩) ?_
      exact M2
    refine AllReady.cons rfl (fun K14 hK14 => ?_) ?_
    · go_simp
      refine hK14 _ _ ?_
      refine wpAny_ready (rs := [6, 9]) (by kernel_rfl) (by simp) ?_
      refine AllReady.cons rfl (fun K15 hK15 => ?_) ?_
      · go_simp
        go_wp2_with (go_at_call 13; refine (HCR.out _ (by first | exact HX.out.drew | exact HX.out)).mono ?_; rintro e w' ⟨rfl, rfl⟩)
        refine wpAny_ready (rs := [9]) (by kernel_rfl) (by simp) ?_
        refine AllReady.cons rfl (fun K16 hK16 => ?_) AllReady.nil
        go_simp
        refine hK16 _ _ ?_
        refine wpAny_take (i := 10) (v := .int .i64 ((lim : Int) - (n : Int))) rfl (by kernel_rfl) (by kernel_rfl) (by kernel_rfl) (fun _ _ _ h => h) (Or.inl ⟨by rfl, by intro w; go_simp⟩) ?_
        exact M2
      refine AllReady.cons rfl (fun K17 hK17 => ?_) AllReady.nil
      go_simp
      refine hK17 _ _ ?_
      refine wpAny_take (i := 10) (v := .int .i64 ((lim : Int) - (n : Int))) rfl (by kernel_rfl) (by kernel_rfl) (by kernel_rfl) (fun _ _ _ h => h) (Or.inl ⟨by rfl, by intro w; go_simp⟩) ?_
      refine wpAny_ready (rs := [6]) (by kernel_rfl) (by simp) ?_
      refine AllReady.cons rfl (fun K18 hK18 => ?_) AllReady.nil
      go_simp
      go_wp2_with (go_at_call 13; refine (HCR.out _ (by first | exact HX.out.drew | exact HX.out)).mono ?_; rintro e w' ⟨rfl, rfl⟩)
      exact M2
    refine AllReady.cons rfl (fun K19 hK19 => ?_) AllReady.nil
    go_simp
    refine hK19 _ _ ?_
    refine wpAny_ready (rs := [6, 8]) (by kernel_rfl) (by simp) ?_
    refine AllReady.cons rfl (fun K20 hK20 => ?_) ?_
    · go_simp
      go_wp2_with (go_at_call 13; refine (HCR.out _ (by first | exact HX.out.drew | exact HX.out)).mono ?_; rintro e w' ⟨rfl, rfl⟩)
      refine wpAny_ready (rs := [8]) (by kernel_rfl) (by simp) ?_
      refine AllReady.cons rfl (fun K21 hK21 => ?_) AllReady.nil
      go_simp
      refine hK21 _ _ ?_
      refine wpAny_take (i := 10) (v := .int .i64 ((lim : Int) - (n : Int))) rfl (by kernel_rfl) (by kernel_rfl) (by kernel_rfl) (fun _ _ _ h => h) (Or.inl ⟨by rfl, by intro w; go_simp⟩) ?_
      exact M2
    refine AllReady.cons rfl (fun K22 hK22 => ?_) AllReady.nil
    go_simp
    refine hK22 _ _ ?_
    refine wpAny_take (i := 10) (v := .int .i64 ((lim : Int) - (n : Int))) rfl (by kernel_rfl) (by kernel_rfl) (by kernel_rfl) (fun _ _ _ h => h) (Or.inl ⟨by rfl, by intro w; go_simp⟩) ?_
    refine wpAny_ready (rs := [6]) (by kernel_rfl) (by simp) ?_
    refine AllReady.cons rfl (fun K23 hK23 => ?_) AllReady.nil
    go_simp
    go_wp2_with (go_at_call 13; refine (HCR.out _ (by first | exact HX.out.drew | exact HX.out)).mono ?_; rintro e w' ⟨rfl, rfl⟩)
    exact M2
  refine wp_region_any (by kernel_rfl) ?_
  refine wpAny_take (i := 0) (v := .pointer (some ⟨q, 0, none⟩)) rfl (by kernel_rfl) (by kernel_rfl) (by kernel_rfl) (fun _ _ _ h => h) (Or.inl ⟨by rfl, by intro w; go_simp⟩) ?_
  refine wpAny_ready (rs := [1, 2]) (by kernel_rfl) (by simp) ?_
  refine AllReady.cons rfl (fun K24 hK24 => ?_) ?_
  · go_simp
    go_wp2_with (go_at_call 12; refine (HCN.out _ (by first | exact HX.out.drew | exact HX.out)).mono ?_; rintro e w' ⟨rfl, rfl⟩)
    refine wpAny_ready (rs := [2]) (by kernel_rfl) (by simp) ?_
    refine AllReady.cons rfl (fun K25 hK25 => ?_) AllReady.nil
    go_simp
    refine hK25 _ _ ?_
    exact M1
  refine AllReady.cons rfl (fun K26 hK26 => ?_) AllReady.nil
  go_simp
  refine hK26 _ _ ?_
  refine wpAny_ready (rs := [1]) (by kernel_rfl) (by simp) ?_
  refine AllReady.cons rfl (fun K27 hK27 => ?_) AllReady.nil
  go_simp
  go_wp2_with (go_at_call 12; refine (HCN.out _ (by first | exact HX.out.drew | exact HX.out)).mono ?_; rintro e w' ⟨rfl, rfl⟩)
  exact M1
end Go.Proofs.Ytahaclglkbgpcaa
