/- fixed.Text, by contract. -/
import Derived.Test.YtggcahcdhjnemaaDoorBuilder
import Derived.Test.YtggcahcdhjnemaaDoorShelf
import Derived.Test.YtggcahcdhjnemaaDoorTextPlain
import Derived.Deep.LoopGhost
import Derived.Lib.Hide
set_option linter.unusedVariables false
set_option linter.unusedSimpArgs false
namespace Go.Proofs.YtggcahcdhjnemaaDoor
open Go.RowKit

theorem text_err (u : Int) (w : World) (h : u < 0 ∨ 1048576 < u) :
    Calls Tryd.prog 46 #[.int .i64 u] w fun e w' => e = .returned (.tuple #[.string ⟨#[]⟩, .iface 83 (.int .i64 1)]) ∧ w = w' := by
  rcases h with h | h
  · have h1 : decide (u < 0) = true := by simpa using h
    go_enter Tryd.func46, Tryd.ntmps46
    go_wp2
    go_ret2
    exact ⟨rfl, rfl⟩
  · have h1 : decide (u < 0) = false := by simp; omega
    go_enter Tryd.func46, Tryd.ntmps46
    go_wp2
    go_ret2
    exact ⟨rfl, rfl⟩

theorem byte_cell (n : Nat) (h : n < 256) : (Value.int .u8 (n : Int)) = .int .u8 ((UInt8.ofNat n).toNat : Int) := by
  congr 1; rw [UInt8.toNat_ofNat']; omega

theorem cells_snoc (l : List UInt8) (n : Nat) (h : n < 256) : Lib.byteCells l ++ [.int .u8 (n : Int)] = Lib.byteCells (l ++ [UInt8.ofNat n]) := by
  simp [Lib.byteCells]; omega

theorem below_of_builder {B b : Nat} {w w' : World} (h : Below B w w') : Below B w w' := h

set_option maxHeartbeats 2000000 in
theorem text_ok (u : Nat) (w : World) (h : u ≤ 1048576) :
    Calls Tryd.prog 46 #[.int .i64 u] w fun e w' => e = .returned (.tuple #[.string ⟨(textL u).toArray⟩, .nilIface]) ∧ Below w.heap.size w w' := by
  have h1 : decide ((u : Int) < 0) = false := by simp
  have hq : (u : Int) / 1048576 ≤ 1 := by omega
  have hq0 : 0 ≤ (u : Int) / 1048576 := by omega
  have b0 := Lib.fresh_isBuilder 93 5 w
  go_enter Tryd.func46, Tryd.ntmps46
  go_wp2_with fail
  refine (writeByte w.heap.size w.heap.size [] _ _ b0 (by simp) (by simp)).mono ?_
  rintro e w1 ⟨rfl, hb1, hw1⟩
  have hb1 : Lib.IsBuilder 93 5 w.heap.size w.heap.size (Lib.byteCells [UInt8.ofNat (48 + u / 1048576)]) w1 := by
    refine Or.inr ?_
    have := cells_snoc [] (48 + u / 1048576) (by omega)
    simp only [List.nil_append] at this
    rw [← this]
    have e : ((48 + u / 1048576 : Nat) : Int) = 48 + (u : Int) / 1048576 := by omega
    rw [e]; exact hb1
  have hw1 : Below w.heap.size w w1 := ((Below.refl _ w).alloc (Nat.le_refl _) _).trans hw1
  clear b0 hq hq0
  by_cases hr : u % 1048576 = 0
  · have hr' : ((u : Int) % 1048576) = 0 := by omega
    have hr0 : decide (0 < (u : Int) % 1048576) = false := by simp; omega
    have Hr := Lib.hid hr'
    clear hr'
    go_wp2_with fail
    refine wp_loop_rounds 1 ?_
    rw [rounds_succ]
    go_wp2_with fail
    refine (Tryd.Builder_String_any w.heap.size w.heap.size _ _ hb1 hw1.size).mono ?_
    rintro e w2 ⟨rfl, hw2⟩
    go_wp2
    go_ret2
    exact ⟨by simp [textL, hr], hw1.trans hw2⟩
  · have hr0 : decide (0 < (u : Int) % 1048576) = true := by simp; omega
    obtain ⟨r, hr⟩ : ∃ r, r = u % 1048576 := ⟨_, rfl⟩
    have hri : ((u : Int) % 1048576) = (r : Int) := by omega
    have Hr := Lib.hid hr
    have hr1 : 0 < r := by omega
    have hr2 : r < 1048576 := by omega
    rw [hri] at hr0
    have Hri := Lib.hid hri
    clear hr hri
    go_wp2_with fail
    refine (writeByte w.heap.size w.heap.size _ _ _ hb1 (by simp [Lib.byteCells]) hw1.size).mono ?_
    rintro e w2 ⟨rfl, hb2, hw2⟩
    have hb2 : Lib.IsBuilder 93 5 w.heap.size w.heap.size (Lib.byteCells [UInt8.ofNat (48 + u / 1048576), 46]) w2 := by
      refine Or.inr ?_
      have := cells_snoc [UInt8.ofNat (48 + u / 1048576)] 46 (by omega)
      have e : [UInt8.ofNat (48 + u / 1048576), 46] = [UInt8.ofNat (48 + u / 1048576)] ++ [UInt8.ofNat 46] := by simp
      rw [e, ← this]
      exact hb2
    have hw2 : Below w.heap.size w w2 := hw1.trans hw2
    obtain ⟨T, hT⟩ : ∃ T, T = [UInt8.ofNat (48 + u / 1048576), 46] ++ fracD 20 r := ⟨_, rfl⟩
    have hTl : textL u = T := by
      have e : ¬ r = 0 := by omega
      simp only [textL, ← Hr.out, if_neg e, hT]; simp
    have HT := Lib.hid hT
    have HTl := Lib.hid hTl
    clear hT hTl hb1 hw1
    go_wp2_with fail
    go_loopg [5] 20 (fun k p wr => ∃ x : Nat, p = .int .i64 x ∧ x < 1048576 ∧ Hid ((10 ^ k * x) % 1048576 = 0) ∧ ∃ l, Hid (T = l ++ fracD k x) ∧ l.length + k ≤ 22 ∧ Lib.IsBuilder 93 5 w.heap.size w.heap.size (Lib.byteCells l) wr ∧ Below w.heap.size w wr)
    case atStart =>
      refine ⟨r, ?_, hr2, ten_start r, _, HT.out, by simp, hb2, hw2⟩
      rw [Hri.out]
    case round =>
      obtain ⟨x, rfl, hx, hz, l, hl, hll, hb, hw⟩ := hrel
      by_cases hx0 : x = 0
      · subst hx0
        go_wp2_with fail
        refine (Tryd.Builder_String_any w.heap.size w.heap.size _ _ hb hw.size).mono ?_
        rintro e w3 ⟨rfl, hw3⟩
        go_wp2
        go_ret2
        refine ⟨?_, hw.trans hw3⟩
        rw [HTl.out, hl.out, fracD_zero]; simp
      · have hx1 : 0 < x := by omega
        have hxb : decide (0 < (x : Int)) = true := by simp; omega
        go_wp2_with fail
        have hlen : (Lib.byteCells l).length + 1 ≤ 140737488355328 := by simp [Lib.byteCells]; omega
        refine (writeByte w.heap.size w.heap.size _ _ _ hb hlen hw.size).mono ?_
        rintro e w3 ⟨rfl, hb3, hw3⟩
        obtain ⟨g, rfl⟩ : ∃ g, gk = g + 1 := by
          refine ⟨gk - 1, ?_⟩
          have hz' := hz.out
          rcases Nat.eq_zero_or_pos gk with h0 | h0
          · subst h0; simp at hz'; omega
          · omega
        have hb3 : Lib.IsBuilder 93 5 w.heap.size w.heap.size (Lib.byteCells (l ++ [UInt8.ofNat (48 + x * 10 / 1048576)])) w3 := by
          refine Or.inr ?_
          have := cells_snoc l (48 + x * 10 / 1048576) (by omega)
          rw [← this]
          have e : ((48 + x * 10 / 1048576 : Nat) : Int) = 48 + (x : Int) * 10 / 1048576 := by omega
          rw [e]; exact hb3
        have hw3 : Below w.heap.size w w3 := hw.trans hw3
        have hl3 : Hid (T = (l ++ [UInt8.ofNat (48 + x * 10 / 1048576)]) ++ fracD g (x * 10 % 1048576)) := by
          refine Lib.hid ?_
          rw [hl.out, fracD_step g x hx1]; simp
        have hz3 : Hid ((10 ^ g * (x * 10 % 1048576)) % 1048576 = 0) := Lib.hid ((ten_step g x).trans hz.out)
        have hx3 : x * 10 % 1048576 < 1048576 := Nat.mod_lt _ (by decide)
        clear hb hw hl hz
        go_wp2_with fail
        go_roundg g
        case measure => omega
        case rel => exact ⟨x * 10 % 1048576, by go_num, hx3, hz3, _, hl3, by simp; omega, hb3, hw3⟩
end Go.Proofs.YtggcahcdhjnemaaDoor
