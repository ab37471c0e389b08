/- The reference's digits and text of units, by contract. -/
import Derived.Test.YtggcahcdhjnemaaDoorTextPlain
import Derived.Test.YtggcahcdhjnemaaDoorBase
import Derived.Deep.LoopGhost
import Derived.Lib.Hide
set_option linter.unusedVariables false
set_option linter.unusedSimpArgs false
namespace Go.Proofs.YtggcahcdhjnemaaDoor
open Go.RowKit
set_option maxRecDepth 100000

theorem bapp (l m : List UInt8) : (⟨l.toArray⟩ : ByteArray) ++ ⟨m.toArray⟩ = ⟨(l ++ m).toArray⟩ := by
  apply ByteArray.ext
  simp [ByteArray.data_append]

theorem digits1 (d : Nat) (c : UInt8) (w : World) (h : d ≤ 9) (hc : c = UInt8.ofNat (48 + d)) :
    Calls Tryd.prog 61 #[.int .i64 (d : Int)] w fun e w' => e = .returned (.string ⟨#[c]⟩) ∧ Below w.heap.size w w' := by
  subst hc
  obtain rfl | rfl | rfl | rfl | rfl | rfl | rfl | rfl | rfl | rfl : d = 0 ∨ d = 1 ∨ d = 2 ∨ d = 3 ∨ d = 4 ∨ d = 5 ∨ d = 6 ∨ d = 7 ∨ d = 8 ∨ d = 9 := by omega
  case inl =>
    go_enter Tryd.func61, Tryd.ntmps61
    go_wp2_with fail
    refine wp_loop_rounds 1 ?_
    rw [rounds_succ]
    go_wp2
    go_ret
    exact ⟨rfl, Below.refl _ w⟩
  all_goals (
    go_enter Tryd.func61, Tryd.ntmps61
    go_wp2_with fail
    refine wp_loop_rounds 1 ?_
    rw [rounds_succ]
    go_wp2
    go_ret
    exact ⟨rfl, Below.refl _ w⟩)

theorem rtext_err (u : Int) (w : World) (h : u < 0 ∨ 1048576 < u) :
    Calls Tryd.prog 47 #[.int .i64 u] w fun e w' => e = .returned (.tuple #[.string ⟨#[]⟩, .int .i64 1]) ∧ Below w.heap.size w w' := by
  rcases h with h | h
  · have h1 : decide (u < 0) = true := by simpa using h
    go_enter Tryd.func47, Tryd.ntmps47
    go_wp2
    go_ret2
    exact ⟨rfl, Below.refl _ w⟩
  · have h1 : decide (u < 0) = false := by simp; omega
    have h2 : decide (1048576 < u) = true := by simpa using h
    go_enter Tryd.func47, Tryd.ntmps47
    go_wp2
    go_ret2
    exact ⟨rfl, Below.refl _ w⟩

set_option maxHeartbeats 400000 in
theorem rtext_ok (u : Nat) (w : World) (h : u ≤ 1048576) :
    Calls Tryd.prog 47 #[.int .i64 u] w fun e w' => e = .returned (.tuple #[.string ⟨(textL u).toArray⟩, .int .i64 0]) ∧ Below w.heap.size w w' := by
  have h1 : decide ((u : Int) < 0) = false := by simp
  have h2 : decide (1048576 < (u : Int)) = false := by simp; omega
  have hq : (u : Int) / 1048576 = ((u / 1048576 : Nat) : Int) := by omega
  have hq9 : u / 1048576 ≤ 9 := by omega
  obtain ⟨d, hd⟩ : ∃ d, d = u / 1048576 := ⟨_, rfl⟩
  obtain ⟨r, hr⟩ : ∃ r, r = u % 1048576 := ⟨_, rfl⟩
  have hri : ((u : Int) % 1048576) = (r : Int) := by omega
  have hr2 : r < 1048576 := by omega
  have hT0 : textL u = UInt8.ofNat (48 + d) :: (if r = 0 then [] else 46 :: fracD 20 r) := by rw [textL, hd, hr]
  rw [← hd] at hq hq9
  have HT0 := Lib.hid hT0
  clear hT0 hd hr
  go_enter Tryd.func47, Tryd.ntmps47
  go_wp2_with fail
  obtain ⟨c, hc⟩ : ∃ c, c = UInt8.ofNat (48 + d) := ⟨_, rfl⟩
  have HC := Lib.hid hc
  clear hc
  refine (digits1 d c _ hq9 HC.out).mono ?_
  rintro e w1 ⟨rfl, hb⟩
  have HB := Lib.hid hb
  clear hb
  have Hri := Lib.hid hri
  by_cases hr0 : r = 0
  · subst hr0
    have ht : ((u : Int) % 1048576 == 0) = true := by rw [hri]; rfl
    clear hri
    go_wp2
    go_ret2
    exact ⟨by rw [HT0.out, HC.out]; simp, HB.out⟩
  · have ht : (((u : Int) % 1048576) == 0) = false := by rw [hri]; simpa using hr0
    clear hri
    obtain ⟨T, hT⟩ : ∃ T, T = [c, 46] ++ fracD 20 r := ⟨_, rfl⟩
    have hTl : textL u = T := by rw [HT0.out, if_neg hr0, hT, HC.out]; simp
    have HT := Lib.hid hT
    have HTl := Lib.hid hTl
    clear hT hTl
    go_wp2_with fail
    go_loopg [4, 5] 20 (fun k vs p wr => ∃ x : Nat, p = .int .i64 x ∧ x < 1048576 ∧ Hid ((10 ^ k * x) % 1048576 = 0) ∧ ∃ s : ByteArray, vs = .string s ∧ s.size + k ≤ 22 ∧ Hid (∃ l : List UInt8, s = ⟨l.toArray⟩ ∧ T = l ++ fracD k x) ∧ Hid (Below w.heap.size w wr))
    case atStart => exact ⟨r, by rw [Hri.out], hr2, Lib.hid (ten_start r), _, rfl, by rw [ByteArray.size_append]; exact Nat.le_refl 22, Lib.hid ⟨[c, 46], bapp [c] [46], HT.out⟩, HB⟩
    case round =>
      obtain ⟨x, rfl, hx, hz, s, rfl, hsz, hl, hb⟩ := hrel
      by_cases hx0 : x = 0
      · subst hx0
        go_wp2_with fail
        go_ret2
        refine ⟨?_, hb.out⟩
        obtain ⟨l, rfl, hT⟩ := hl.out
        rw [HTl.out, hT, fracD_zero]; simp
      · have hx1 : 0 < x := by omega
        have hxb : decide (0 < (x : Int)) = true := by simp; omega
        obtain ⟨y, hy⟩ : ∃ y, y = x * 10 / 1048576 := ⟨_, rfl⟩
        obtain ⟨z, hz0⟩ : ∃ z, z = x * 10 % 1048576 := ⟨_, rfl⟩
        have hq2 : (x : Int) * 10 / 1048576 = (y : Int) := by omega
        have hq4 : (x : Int) * 10 % 1048576 = (z : Int) := by omega
        have hq3 : y ≤ 9 := by omega
        have hx3 : z < 1048576 := by omega
        obtain ⟨g, rfl⟩ : ∃ g, gk = g + 1 := by
          refine ⟨gk - 1, ?_⟩
          have hz' := hz.out
          rcases Nat.eq_zero_or_pos gk with h0 | h0
          · subst h0; simp at hz'; omega
          · omega
        obtain ⟨c2, hc2⟩ : ∃ c, c = UInt8.ofNat (48 + y) := ⟨_, rfl⟩
        have hl3 : Hid (∃ l : List UInt8, s ++ ⟨#[c2]⟩ = ⟨l.toArray⟩ ∧ T = l ++ fracD g z) := by
          refine Lib.hid ?_
          obtain ⟨l, rfl, hT⟩ := hl.out
          exact ⟨l ++ [c2], bapp l [c2], by rw [hT, fracD_step g x hx1, hc2, hy, hz0]; simp⟩
        have HC2 := Lib.hid hc2
        clear hc2
        have hz3 : Hid ((10 ^ g * z) % 1048576 = 0) := Lib.hid (by rw [hz0]; exact (ten_step g x).trans hz.out)
        clear hl hz hy hz0
        go_wp2_with fail
        refine (digits1 y c2 _ hq3 HC2.out).mono ?_
        rintro e w2 ⟨rfl, hb2⟩
        have HB2 := Lib.hid (hb.out.trans (hb2.mono hb.out.size))
        clear hb2 hb
        go_wp2_with fail
        go_roundg g
        case measure => omega
        case rel => exact ⟨z, by go_num, hx3, hz3, _, rfl, by rw [ByteArray.size_append]; have : (⟨#[c2]⟩ : ByteArray).size = 1 := rfl; omega, hl3, HB2⟩
end Go.Proofs.YtggcahcdhjnemaaDoor
