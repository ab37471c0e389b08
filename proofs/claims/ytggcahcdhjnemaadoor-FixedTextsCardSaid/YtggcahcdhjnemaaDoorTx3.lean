/- fixed.Read of a text of units, by contract. -/
import Derived.Test.YtggcahcdhjnemaaDoorTx2
import Derived.Test.YtggcahcdhjnemaaDoorText
set_option linter.unusedVariables false
set_option linter.unusedSimpArgs false
namespace Go.Proofs.YtggcahcdhjnemaaDoor
open Go.RowKit
set_option maxRecDepth 100000

theorem cut_one (c : UInt8) (hc : (46 == c) = false) : Lib.cut [c] [46] = ([c], [], false) := by
  simp [Lib.cut, Lib.index, List.isPrefixOf, hc]
theorem cut_two (c : UInt8) (t : List UInt8) (hc : (46 == c) = false) : Lib.cut (c :: 46 :: t) [46] = ([c], t, true) := by
  simp [Lib.cut, Lib.index, List.isPrefixOf, hc]

theorem cutS (s wh pt : ByteArray) (b : Bool) (m : Int) (w : World) (h : Lib.cut s.data.toList [46] = (wh.data.toList, pt.data.toList, b)) (hs : s.size < 4294967281) (hm : w.cell? ⟨1, 0, none⟩ = some (.int .i64 m)) :
    Calls Tryd.prog 62 #[.string s, .string ⟨#[46]⟩] w fun e w' => e = .returned (.tuple #[.string wh, .string pt, .bool b]) ∧ Below w.heap.size w w' := by
  refine (Tryd.strings_Cut s ⟨#[46]⟩ m w hs hm).mono ?_
  rintro e w' ⟨rfl, n, rfl⟩
  have e1 : (⟨#[46]⟩ : ByteArray).data.toList = [46] := rfl
  rw [e1, h]
  exact ⟨rfl, below_drewN' (Below.refl _ w) n⟩

theorem textS (u : Nat) (s : ByteArray) (w : World) (h : u ≤ 1048576) (hs : s = ⟨(textL u).toArray⟩) :
    Calls Tryd.prog 46 #[.int .i64 u] w fun e w' => e = .returned (.tuple #[.string s, .nilIface]) ∧ Below w.heap.size w w' := by
  subst hs; exact text_ok u w h

set_option maxHeartbeats 400000 in
theorem read_none (m : Int) (w : World) (hm : w.cell? ⟨1, 0, none⟩ = some (.int .i64 m)) :
    Calls Tryd.prog 48 #[.string ⟨#[]⟩] w fun e w' => e = .returned (.tuple #[.int .i64 0, .iface 83 (.int .i64 4)]) ∧ Below w.heap.size w w' := by
  go_enter Tryd.func48, Tryd.ntmps48
  go_wp2_with fail
  refine (cutS ⟨#[]⟩ ⟨#[]⟩ ⟨#[]⟩ false m _ (by decide) (by decide) hm).mono ?_
  rintro e w1 ⟨rfl, hb⟩
  go_wp2
  go_ret2
  exact ⟨rfl, hb⟩

set_option maxHeartbeats 400000 in
theorem read_zero (m : Int) (w : World) (hm : w.cell? ⟨1, 0, none⟩ = some (.int .i64 m)) :
    Calls Tryd.prog 48 #[.string ⟨#[48]⟩] w fun e w' => e = .returned (.tuple #[.int .i64 0, .nilIface]) ∧ Below w.heap.size w w' := by
  go_enter Tryd.func48, Tryd.ntmps48
  go_wp2_with fail
  refine (cutS ⟨#[48]⟩ ⟨#[48]⟩ ⟨#[]⟩ false m _ (cut_one 48 (by decide)) (by decide) hm).mono ?_
  rintro e w1 ⟨rfl, hb⟩
  go_wp2_with fail
  refine (textS 0 ⟨#[48]⟩ _ (by decide) (by decide)).mono ?_
  rintro e w2 ⟨rfl, hb2⟩
  go_wp2
  go_ret2
  exact ⟨rfl, below_call hb (Nat.le_refl _) hb2⟩

set_option maxHeartbeats 400000 in
theorem read_unit (m : Int) (w : World) (hm : w.cell? ⟨1, 0, none⟩ = some (.int .i64 m)) :
    Calls Tryd.prog 48 #[.string ⟨#[49]⟩] w fun e w' => e = .returned (.tuple #[.int .i64 1048576, .nilIface]) ∧ Below w.heap.size w w' := by
  go_enter Tryd.func48, Tryd.ntmps48
  go_wp2_with fail
  refine (cutS ⟨#[49]⟩ ⟨#[49]⟩ ⟨#[]⟩ false m _ (cut_one 49 (by decide)) (by decide) hm).mono ?_
  rintro e w1 ⟨rfl, hb⟩
  go_wp2_with fail
  refine (textS 1048576 ⟨#[49]⟩ _ (by decide) (by decide)).mono ?_
  rintro e w2 ⟨rfl, hb2⟩
  go_wp2
  go_ret2
  exact ⟨rfl, below_call hb (Nat.le_refl _) hb2⟩

set_option maxHeartbeats 400000 in
theorem read_part (r : Nat) (s : ByteArray) (m : Int) (w : World) (hm : w.cell? ⟨1, 0, none⟩ = some (.int .i64 m)) (h0 : 0 < r) (hr : r < 1048576) (hs : s = ⟨(48 :: 46 :: fracD 20 r).toArray⟩) :
    Calls Tryd.prog 48 #[.string s] w fun e w' => e = .returned (.tuple #[.int .i64 (r : Int), .nilIface]) ∧ Below w.heap.size w w' := by
  have hl20 : (fracD 20 r).length ≤ 20 := fracD_len 20 r
  have hnil := fracD_nil (k := 20) h0 (by decide)
  have hT : textL r = 48 :: 46 :: fracD 20 r := by
    rw [textL]
    have e1 : r / 1048576 = 0 := by omega
    have e2 : r % 1048576 = r := by omega
    have e3 : ¬ r = 0 := by omega
    rw [e1, e2, if_neg e3]; rfl
  obtain ⟨P, hP⟩ : ∃ P : ByteArray, P = ⟨(fracD 20 r).toArray⟩ := ⟨_, rfl⟩
  have HP := Lib.hid hP
  obtain ⟨L, hL⟩ : ∃ L, L = fracD 20 r := ⟨_, rfl⟩
  rw [← hL] at hs hP hT hl20 hnil
  clear hL
  have htx : s = ⟨(textL r).toArray⟩ := by rw [hs, hT]
  have HX := Lib.hid htx
  clear htx hT
  have hsz : s.size ≤ 22 := by
    rw [hs]
    have : (⟨(48 :: 46 :: L).toArray⟩ : ByteArray).size = L.length + 2 := by simp [ByteArray.size]
    omega
  have t1 : decide (40 < (s.size : Int)) = false := by simp; omega
  have hcut : Lib.cut s.data.toList [46] = ((⟨#[48]⟩ : ByteArray).data.toList, P.data.toList, true) := by rw [hs, hP]; exact cut_two 48 L (by decide)
  have HCut := Lib.hid hcut
  have hne : (P == ⟨#[]⟩) = false := by
    have : (P.data == #[]) = false := by rw [hP]; simpa using hnil
    exact this
  have hne2 : P.toList.isEmpty = false := by
    have e : P.toList = L := by first | (rw [Lib.toList_data, hP]; done) | (rw [Lib.toList_data, hP]; simp) | (rw [ByteArray.toList_eq, hP]; simp)
    rw [e]; simpa using hnil
  have h48 : (((⟨#[48]⟩ : ByteArray)[0]'(by decide)).toNat : Int) = 48 := rfl
  clear hcut hP hs hl20 hnil
  go_enter Tryd.func48, Tryd.ntmps48
  go_wp2_with fail
  refine (cutS s ⟨#[48]⟩ P true m _ HCut.out (by omega) hm).mono ?_
  rintro e w1 ⟨rfl, hb⟩
  go_wp2_with fail
  refine (nearest_ok r P _ h0 hr HP.out).mono ?_
  rintro e w' ⟨rfl, rfl⟩
  go_wp2_with fail
  refine (textS r s _ (by omega) HX.out).mono ?_
  rintro e w2 ⟨rfl, hb2⟩
  go_wp2
  go_ret2
  exact ⟨rfl, below_call hb (Nat.le_refl _) hb2⟩

theorem read_ok (u : Nat) (s : ByteArray) (m : Int) (w : World) (hm : w.cell? ⟨1, 0, none⟩ = some (.int .i64 m)) (h : u ≤ 1048576) (hs : s = ⟨(textL u).toArray⟩) :
    Calls Tryd.prog 48 #[.string s] w fun e w' => e = .returned (.tuple #[.int .i64 (u : Int), .nilIface]) ∧ Below w.heap.size w w' := by
  by_cases h0 : u = 0
  · subst h0; subst hs; exact read_zero m w hm
  · by_cases h1 : u = 1048576
    · subst h1; subst hs; exact read_unit m w hm
    · refine read_part u s m w hm (by omega) (by omega) ?_
      rw [hs, textL]
      have e1 : u / 1048576 = 0 := by omega
      have e2 : u % 1048576 = u := by omega
      rw [e1, e2, if_neg h0]; rfl
end Go.Proofs.YtggcahcdhjnemaaDoor
