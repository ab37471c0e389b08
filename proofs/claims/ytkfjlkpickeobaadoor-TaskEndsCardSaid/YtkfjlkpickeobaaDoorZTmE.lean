/- Of the text TmE only what this claim needs (shake.py, this repo's). -/
import Derived.Test.YtkfjlkpickeobaaDoorProg
import Derived.WalkKit
import Derived.Lib.Builder
import Derived.Lib.AppendStr
import Derived.Lib.UnsafeStr
import Derived.Laws.Externs
import Derived.Lib.Walk
import Derived.Shelf.Strings.BuilderX
import Derived.Test.YtkfjlkpickeobaaDoorZTmA
import Derived.Test.YtkfjlkpickeobaaDoorZShelf
import Derived.Test.YtkfjlkpickeobaaDoorZTmC
import Derived.Lib.ItoaLen
import Derived.Test.YtkfjlkpickeobaaDoorZTmD
set_option linter.unusedVariables false
set_option linter.unusedSimpArgs false
namespace Go.Proofs.YtkfjlkpickeobaaDoor
open Go.RowKit

theorem b_info : (Tryd.prog.info? 77).map (fun i => i.size) = some 2 := by kernel_rfl
theorem b_byte : (Tryd.prog.info? 5).map (fun i => (i.zero, i.size, i.bytes)) = some (some (.int .u8 0), 1, 1) := by kernel_rfl

set_option maxHeartbeats 1000000 in
set_option maxRecDepth 100000 in
theorem copyCheck_used (b : Nat) (w : World) (h0 : w.cell? ⟨b, 0, none⟩ = some (.pointer (some ⟨b, 0, none⟩))) :
    Calls Tryd.prog 60 #[.pointer (some ⟨b, 0, none⟩)] w fun e w' => e = .returned (.tuple #[]) ∧ w' = w := by
  obtain ⟨j, hj, _⟩ := Option.map_eq_some_iff.1 b_info
  go_enter Tryd.func60, Tryd.ntmps60
  go_wp2
  rw [Lib.run_neq_ptr_same w _ Tryd.underlying74 hj]
  go_wp2
  go_end0
  exact ⟨rfl, rfl⟩

set_option maxHeartbeats 1000000 in
set_option maxRecDepth 100000 in
theorem copyCheck_fresh (b : Nat) (w : World) (h0 : w.cell? ⟨b, 0, none⟩ = some (.pointer none)) (hsh : w.shape? b = some (77, 2)) (hfz : w.frozen? ⟨b, 0, none⟩ = false) :
    Calls Tryd.prog 60 #[.pointer (some ⟨b, 0, none⟩)] w fun e w' => e = .returned (.tuple #[]) ∧ w' = w.setCell ⟨b, 0, none⟩ (.pointer (some ⟨b, 0, none⟩)) := by
  obtain ⟨j, hj, hjs⟩ := Option.map_eq_some_iff.1 b_info
  go_enter Tryd.func60, Tryd.ntmps60
  go_wp2
  rw [Lib.run_to_unsafe w ⟨b, 0, none⟩ Tryd.underlying74 Tryd.underlying94 hj (by rw [hjs]; decide) hsh (Nat.zero_lt_succ 1)]
  simp only [Result.andThen]
  rw [Oper.upon_value]
  go_wp2
  rw [run_callFunc_extern Tryd.func63 (by kernel_rfl) (by kernel_rfl) (by kernel_rfl) (e := Extern.AbiNoEscape.same) (by kernel_rfl)]
  rw [Lib.run_noEscape]
  simp only [Result.andThen]
  rw [Oper.upon_value]
  go_wp2
  rw [Lib.run_from_unsafe w ⟨b, 0, none⟩ Tryd.underlying94 Tryd.underlying74 hj hsh (by kernel_rfl)]
  simp only [Result.andThen]
  rw [Oper.upon_value]
  go_wp2
  go_end0
  exact ⟨rfl, rfl⟩

end Go.Proofs.YtkfjlkpickeobaaDoor

set_option linter.unusedVariables false
set_option linter.unusedSimpArgs false
namespace Go.Proofs.YtkfjlkpickeobaaDoor
open Go.RowKit

/-- Blocks of cells that are no bytes, and not the builder's own, stay. -/
def KeepT (b : Nat) (w w' : World) : Prop := ∀ k cs T, T ≠ 5 → k ≠ b → w.heap[k]? = some (.cells cs T (0, 0)) → w'.heap[k]? = some (.cells cs T (0, 0))
theorem KeepT.refl (b : Nat) (w : World) : KeepT b w w := fun _ _ _ _ _ h => h
theorem KeepT.trans {b : Nat} {a c d : World} (h : KeepT b a c) (k : KeepT b c d) : KeepT b a d := fun i cs T h1 h2 h3 => k i cs T h1 h2 (h i cs T h1 h2 h3)
theorem KeepT.set (b j : Nat) (v : Value) (w : World) : KeepT b w (w.setCell ⟨b, j, none⟩ v) := fun k cs T _ h2 h3 => by rw [Below.heap_setCell _ _ _ _ h2]; exact h3
theorem KeepT.grown {b : Nat} {w w' : World} {B n : Nat} {v : Value} {xs : List Value} (hown : w.ownsRow B 5 1 v n xs) (hg : w.grownBy w' v.ownBlock) : KeepT b w w' := fun k cs T h1 _ h3 => by
  rw [hg.block k (Array.getElem?_eq_some_iff.1 h3).1 (fun e => Lib.ownBlock_ne hown h3 h1 e.symm)]
  exact h3
theorem KeepT.alloc {b : Nat} {w w' : World} (o : Obj) (h : KeepT b (w.alloc o) w') : KeepT b w w' := fun k cs T h1 h2 h3 => by
  refine h k cs T h1 h2 ?_
  rw [((Below.refl w.heap.size w).alloc (Nat.le_refl _) o).block k (Array.getElem?_eq_some_iff.1 h3).1]
  exact h3

theorem copyCheckT (B b : Nat) (bs : List Value) (w : World) (h : Lib.IsBuilder 77 5 B b bs w) :
    Calls Tryd.prog 60 #[.pointer (some ⟨b, 0, none⟩)] w fun e w' => e = .returned (.tuple #[]) ∧ (Lib.BuilderAt 77 5 B b (.pointer (some ⟨b, 0, none⟩)) bs w' ∧ Below B w w' ∧ KeepT b w w') := by
  rcases h with h | h
  · refine (copyCheck_fresh b w h.cell0 h.shape h.frozen0).mono ?_
    rintro e w' ⟨rfl, rfl⟩
    exact ⟨rfl, h.used _, (Below.refl B w).setCell (p := ⟨b, 0, none⟩) h.1 _, KeepT.set _ _ _ _⟩
  · refine (copyCheck_used b w h.cell0).mono ?_
    rintro e w' ⟨rfl, rfl⟩
    exact ⟨rfl, h, Below.refl B _, KeepT.refl _ _⟩

set_option maxHeartbeats 2000000 in
set_option maxRecDepth 100000 in
theorem writeByteT (B b : Nat) (bs : List Value) (c : Int) (w : World) (h : Lib.IsBuilder 77 5 B b bs w) (hlen : bs.length + 1 ≤ 140737488355328) (hBw : B ≤ w.heap.size) :
    Calls Tryd.prog 48 #[.pointer (some ⟨b, 0, none⟩), .int .u8 c] w fun e w' => e = .returned .nilIface ∧ (Lib.BuilderAt 77 5 B b (.pointer (some ⟨b, 0, none⟩)) (bs ++ [.int .u8 c]) w' ∧ Below B w w' ∧ KeepT b w w') := by
  obtain ⟨i0, hi, hz0, hz1, hz2⟩ := info_parts b_byte
  go_enter Tryd.func48, Tryd.ntmps48
  go_wp2_with (go_at_call 60; refine (copyCheckT B b bs _ h).mono ?_)
  rintro e w1 ⟨rfl, h1, hb1, hk1⟩
  have HK1 := Lib.hid hk1
  clear hk1
  obtain ⟨hB, v, hbk, hown, hne⟩ := h1
  have c0 : w1.cell? ⟨b, 0, none⟩ = some (.pointer (some ⟨b, 0, none⟩)) := by rw [Lib.cell_of_heap hbk]; rfl
  have c1 : w1.cell? ⟨b, 1, none⟩ = some v := by rw [Lib.cell_of_heap hbk]; rfl
  go_wp2_with (at_builtin; refine wpList_append_own _ rfl _ _ 75 rfl B 5 i0 (.int .u8 0) 1 1 Tryd.underlying75 hi hz0 hz1 hz2 rfl (by decide) _ _ _ rfl (hown.alloc _) ⟨w1.heap.size, 0, none⟩ 1 1 [.int .u8 c] rfl rfl ?c1 ?c2 ?c3 ?c4 ?c5 ?_)
  case c1 =>
    intro j u hj
    match j, hj with
    | 0, hj => simp at hj; subst hj; simp [Addr.add]
  case c2 => intro u hu; simp at hu; subst hu; rfl
  case c3 => unfold maxLen; omega
  case c4 => omega
  case c5 => have := hb1.size; simp; omega
  intro v' w2 hown' hgrow _
  have hlt : b < w1.heap.size := by
    rcases Nat.lt_or_ge b w1.heap.size with h' | h'
    · exact h'
    · simp [Array.getElem?_eq_none h'] at hbk
  have hb2 : w2.heap[b]? = some (.cells #[.pointer (some ⟨b, 0, none⟩), v] 77 (0, 0)) := by
    rw [hgrow.block b (by simp; omega) (fun e => hne e.symm), Lib.alloc_old w1 _ b hlt]
    exact hbk
  have d0 : w2.cell? ⟨b, 0, none⟩ = some (.pointer (some ⟨b, 0, none⟩)) := by rw [Lib.cell_of_heap hb2]; rfl
  have d1 : w2.cell? ⟨b, 1, none⟩ = some v := by rw [Lib.cell_of_heap hb2]; rfl
  have f1 : w2.frozen? ⟨b, 1, none⟩ = false := Lib.frozen_of_heap hb2 1
  obtain ⟨g, cap, rfl⟩ : ∃ g cap, v' = .slice (some ⟨g, 0, none⟩) (bs.length + 1) cap := by
    rcases hown'.2 with ⟨_, h0⟩ | ⟨g, cap, cur, hv, _⟩
    · omega
    · exact ⟨g, cap, hv⟩
  go_wp2
  go_ret
  refine ⟨rfl, ?_, ?_, ?_⟩
  · exact Lib.BuilderAt.put (T := 77) (e := 5) hB hb2 (bs' := bs ++ [.int .u8 c]) (by simpa using hown') (by decide)
  · exact ((hb1.alloc (by have := hb1.size; omega) _).grown hgrow (by have := hb1.size; simp; omega) (fun k hk => (hown.lt k hk).1)).setCell (p := ⟨b, 1, none⟩) hB _
  · exact HK1.out.trans ((KeepT.alloc _ (KeepT.grown (hown.alloc _) hgrow)).trans (KeepT.set _ _ _ _))

set_option maxHeartbeats 2000000 in
set_option maxRecDepth 100000 in
theorem writeStringT (B b : Nat) (bs : List Value) (s : ByteArray) (w : World) (h : Lib.IsBuilder 77 5 B b bs w) (hlen : bs.length + s.size ≤ 140737488355328) (hBw : B ≤ w.heap.size) :
    Calls Tryd.prog 49 #[.pointer (some ⟨b, 0, none⟩), .string s] w fun e w' => e = .returned (.tuple #[.int .i64 s.size, .nilIface]) ∧ (Lib.BuilderAt 77 5 B b (.pointer (some ⟨b, 0, none⟩)) (bs ++ Lib.strCells s) w' ∧ Below B w w' ∧ KeepT b w w') := by
  obtain ⟨i0, hi, hz0, hz1, hz2⟩ := info_parts b_byte
  go_enter Tryd.func49, Tryd.ntmps49
  go_wp2_with (go_at_call 60; refine (copyCheckT B b bs _ h).mono ?_)
  rintro e w1 ⟨rfl, h1, hb1, hk1⟩
  have HK1 := Lib.hid hk1
  clear hk1
  obtain ⟨hB, v, hbk, hown, hne⟩ := h1
  have c0 : w1.cell? ⟨b, 0, none⟩ = some (.pointer (some ⟨b, 0, none⟩)) := by rw [Lib.cell_of_heap hbk]; rfl
  have c1 : w1.cell? ⟨b, 1, none⟩ = some v := by rw [Lib.cell_of_heap hbk]; rfl
  go_wp2_with (at_builtin; refine Lib.wpList_append_own_string _ rfl _ _ 75 9 rfl B 5 i0 Tryd.underlying75 Tryd.underlying9 hi hz0 hz1 hz2 _ _ _ rfl hown s rfl ?c3 ?c4 ?c5 ?_)
  case c3 => unfold maxLen; omega
  case c4 => omega
  case c5 => have := hb1.size; omega
  intro v' w2 hown' hgrow _
  have hlt : b < w1.heap.size := by
    rcases Nat.lt_or_ge b w1.heap.size with h' | h'
    · exact h'
    · simp [Array.getElem?_eq_none h'] at hbk
  have hb2 : w2.heap[b]? = some (.cells #[.pointer (some ⟨b, 0, none⟩), v] 77 (0, 0)) := by
    rw [hgrow.block b hlt (fun e => hne e.symm)]
    exact hbk
  have d0 : w2.cell? ⟨b, 0, none⟩ = some (.pointer (some ⟨b, 0, none⟩)) := by rw [Lib.cell_of_heap hb2]; rfl
  have d1 : w2.cell? ⟨b, 1, none⟩ = some v := by rw [Lib.cell_of_heap hb2]; rfl
  have f1 : w2.frozen? ⟨b, 1, none⟩ = false := Lib.frozen_of_heap hb2 1
  obtain ⟨ao, n', cap, rfl⟩ : ∃ ao n' cap, v' = .slice ao n' cap := by
    rcases hown'.2 with ⟨hv, _⟩ | ⟨g, cap, cur, hv, _⟩
    · exact ⟨_, _, _, hv⟩
    · exact ⟨_, _, _, hv⟩
  go_wp2
  go_ret2
  refine ⟨rfl, ?_, ?_, ?_⟩
  · exact Lib.BuilderAt.put (T := 77) (e := 5) hB hb2 (bs' := bs ++ Lib.strCells s) (by simpa [Lib.strCells_length] using hown') (by decide)
  · exact (hb1.grown hgrow (by have := hb1.size; omega) (fun k hk => (hown.lt k hk).1)).setCell (p := ⟨b, 1, none⟩) hB _
  · exact HK1.out.trans ((KeepT.grown hown hgrow).trans (KeepT.set _ _ _ _))

end Go.Proofs.YtkfjlkpickeobaaDoor

set_option linter.unusedVariables false
set_option linter.unusedSimpArgs false
namespace Go.Proofs.YtkfjlkpickeobaaDoor
open Go.RowKit
open Go.Proofs.YtkfjlkpickeobaaDoorW.PrintWords (Kd Drawn0 Kept rd rdOf)
open Go.Proofs.YtkfjlkpickeobaaDoor.PTaskRuns
set_option maxRecDepth 100000

abbrev BIs (b : Nat) (l : List UInt8) (w : World) : Prop := Lib.IsBuilder 77 5 b b (Lib.byteCells l) w
/-- From this world on, Itoa tells every number of a kind. -/
def ItOk (P : Int → Prop) (B : Nat) (w : World) : Prop := ∀ n, P n → ∀ W, Below B w W → Calls Tryd.prog 50 #[.int .i64 n] W fun e w' => e = .returned (.string ⟨(Lib.itoa n).toArray⟩) ∧ Below W.heap.size W w'
def Small (n : Int) : Prop := 0 ≤ n ∧ n < 100
theorem itOk_small (B : Nat) (w : World) : ItOk Small B w := fun n h W _ => by
  obtain ⟨h0, h1⟩ := h
  obtain ⟨i, rfl⟩ : ∃ i : Nat, n = i := ⟨n.toNat, by omega⟩
  refine (Tryd.strconv_Itoa_small i (by omega) W).mono ?_
  rintro e w' ⟨rfl, rfl⟩
  exact ⟨by rw [Lib.itoa_nonneg], Below.refl _ _⟩
theorem ItOk.below {P : Int → Prop} {B : Nat} {w w' : World} (h : ItOk P B w) (hb : Below B w w') : ItOk P B w' := fun n hn W hW => h n hn W (hb.trans hW)
theorem ItOk.mono {P : Int → Prop} {B B' : Nat} {w : World} (h : ItOk P B w) (hb : B ≤ B') : ItOk P B' w := fun n hn W hW => h n hn W (hW.mono hb)

/-- What a word adds to the text. -/
def wordF (l s : List UInt8) (n : Int) : List UInt8 := (if l = [] then [] else l ++ [32]) ++ (s ++ Lib.itoa n)
theorem wordF_len (l s : List UInt8) (n : Int) (h0 : -9223372036854775808 ≤ n) (h1 : n ≤ 9223372036854775807) : (wordF l s n).length ≤ l.length + s.length + 22 := by
  have := Lib.itoa_length_le n h0 h1
  unfold wordF
  split <;> simp <;> omega
theorem byteCells_app (l : List UInt8) (s : ByteArray) : Lib.byteCells l ++ Lib.strCells s = Lib.byteCells (l ++ s.data.toList) := by
  simp [Lib.byteCells, Lib.strCells]
theorem byteCells_32 (l : List UInt8) : Lib.byteCells l ++ [.int .u8 32] = Lib.byteCells (l ++ [32]) := by simp [Lib.byteCells]
theorem byteCells_93 (l : List UInt8) : Lib.byteCells l ++ [.int .u8 93] = Lib.byteCells (l ++ [93]) := by simp [Lib.byteCells]

/-- What a callee that writes to the builder leaves. -/
structure BS (b : Nat) (l : List UInt8) (w w' : World) : Prop where
  is : BIs b l w'
  be : Below b w w'
  kt : KeepT b w w'

theorem isb_below {B b : Nat} {bs : List Value} {w w' : World} (h : Lib.IsBuilder 77 5 B b bs w) (hb : Below w.heap.size w w') : Lib.IsBuilder 77 5 B b bs w' := by
  rcases h with ⟨k0, v, k1, k2, k3⟩ | ⟨k0, v, k1, k2, k3⟩
  · exact .inl ⟨k0, v, (hb.block b (Array.getElem?_eq_some_iff.1 k1).1).trans k1, k2.kept (row := none) ⟨hb.os, hb.tape, hb.output, hb.size, fun k hk _ => hb.block k hk⟩ (by cases hv : v.ownBlock <;> simp), k3⟩
  · exact .inr ⟨k0, v, (hb.block b (Array.getElem?_eq_some_iff.1 k1).1).trans k1, k2.kept (row := none) ⟨hb.os, hb.tape, hb.output, hb.size, fun k hk _ => hb.block k hk⟩ (by cases hv : v.ownBlock <;> simp), k3⟩
theorem KeepT.below {b : Nat} {w w' : World} (hb : Below w.heap.size w w') : KeepT b w w' := fun k cs T _ _ h3 => (hb.block k (Array.getElem?_eq_some_iff.1 h3).1).trans h3

set_option maxHeartbeats 1000000 in
theorem word_ok (P : Int → Prop) (b : Nat) (l : List UInt8) (s : ByteArray) (n : Int) (w : World) (hi : ItOk P b w) (hP : P n) (h : BIs b l w) (hl : l.length ≤ 100000) (hs : s.size ≤ 100) (h0 : -9223372036854775808 ≤ n) (h1 : n ≤ 9223372036854775807) (hb : b ≤ w.heap.size) :
    Calls Tryd.prog 46 #[.string s, .int .i64 n, .pointer (some ⟨b, 0, none⟩)] w fun e w' => e = .returned (.tuple #[]) ∧ BS b (wordF l s.data.toList n) w w' := by
  have hL := Tryd.Builder_Len b b (Lib.byteCells l) w h
  rw [Lib.byteCells_length] at hL
  have HL := Lib.hid hL
  have HI := Lib.hid hi
  have HP := Lib.hid hP
  have HB := Lib.hid h
  obtain ⟨z, hz⟩ : ∃ z : ByteArray, z = ⟨(Lib.itoa n).toArray⟩ := ⟨_, rfl⟩
  have hzl : z.size ≤ 21 := by rw [hz]; simpa [ByteArray.size] using Lib.itoa_length_le n h0 h1
  have hz2 : z.data.toList = Lib.itoa n := by rw [hz]
  have HZ := Lib.hid hz
  have HZ2 := Lib.hid hz2
  clear hL hi hP h hz hz2
  have hcat : (s ++ z).data.toList = s.data.toList ++ z.data.toList := by simp
  have hcl : (s ++ z).size ≤ 121 := by
    have : (s ++ z).size = s.size + z.size := by simp
    omega
  have HC := Lib.hid hcat
  have HCL := Lib.hid hcl
  clear hcat hcl
  by_cases hl0 : l = []
  · subst hl0
    have t0 : decide ((0 : Int) < (0 : Nat)) = false := by decide
    go_enter Tryd.func46, Tryd.ntmps46
    go_wp2_with fail
    refine HL.out.mono ?_
    rintro e w' ⟨rfl, rfl⟩
    go_wp2_with fail
    refine (HI.out n HP.out _ (Below.refl _ _)).mono ?_
    rintro e w1 ⟨rfl, hb2⟩
    rw [← HZ.out]
    have HB2 := Lib.hid (isb_below HB.out hb2)
    have HG2 := Lib.hid (show Below b w' w1 ∧ KeepT b w' w1 from ⟨below_call (Below.refl _ _) (by omega) hb2, KeepT.below hb2⟩)
    have HW := Lib.hid (writeStringT b b (Lib.byteCells []) (s ++ z) w1 HB2.out (by rw [Lib.byteCells_length]; have := HCL.out; simp; omega) (by have := HG2.out.1.size; omega))
    clear hb2 HB2 HB
    go_wp2_with fail
    refine HW.out.mono ?_
    rintro e w3 ⟨rfl, hA, hb3, hk3⟩
    rw [byteCells_app, HC.out, HZ2.out] at hA
    have HF : Hid (BS b (wordF [] s.data.toList n) w' w3) := Lib.hid ⟨.inr (by unfold wordF; simpa using hA), HG2.out.1.trans hb3, HG2.out.2.trans hk3⟩
    clear hA hb3 hk3 HW HG2
    go_wp2
    go_end0
    exact ⟨rfl, HF.out⟩
  · have hlp : 0 < l.length := List.length_pos_iff.2 hl0
    have t0 : decide ((0 : Int) < (l.length : Int)) = true := decide_eq_true (by omega)
    have t0' : decide (0 < l.length) = true := decide_eq_true hlp
    have HL0 := Lib.hid hl0
    have HWB := Lib.hid (writeByteT b b (Lib.byteCells l) 32 w HB.out (by rw [Lib.byteCells_length]; omega) hb)
    clear hl0 HB
    go_enter Tryd.func46, Tryd.ntmps46
    go_wp2_with fail
    refine HL.out.mono ?_
    rintro e w' ⟨rfl, rfl⟩
    go_wp2_with fail
    refine HWB.out.mono ?_
    rintro e w1 ⟨rfl, hA, hb1, hk1⟩
    rw [byteCells_32] at hA
    have HB1 : Hid (BIs b (l ++ [32]) w1) := Lib.hid (.inr hA)
    have HI1 : Hid (∀ W, Below w1.heap.size w1 W → Calls Tryd.prog 50 #[.int .i64 n] W fun e w' => e = .returned (.string ⟨(Lib.itoa n).toArray⟩) ∧ Below W.heap.size W w') := fun W hW => HI.out n HP.out W (hb1.trans (hW.mono (by have := hb1.size; omega)))
    have HG1 := Lib.hid (show Below b w' w1 ∧ KeepT b w' w1 from ⟨hb1, hk1⟩)
    clear hA hb1 hk1 HWB
    go_wp2_with fail
    refine (HI1.out _ (Below.refl _ _)).mono ?_
    rintro e w2 ⟨rfl, hb2⟩
    rw [← HZ.out]
    have HB2 := Lib.hid (isb_below HB1.out hb2)
    have HG2 := Lib.hid (show Below b w' w2 ∧ KeepT b w' w2 from ⟨below_call HG1.out.1 (by have := HG1.out.1.size; omega) hb2, HG1.out.2.trans (KeepT.below hb2)⟩)
    have HW := Lib.hid (writeStringT b b (Lib.byteCells (l ++ [32])) (s ++ z) w2 HB2.out (by rw [Lib.byteCells_length]; have := HCL.out; simp; omega) (by have := HG2.out.1.size; omega))
    clear hb2 HB2 HB1
    go_wp2_with fail
    refine HW.out.mono ?_
    rintro e w3 ⟨rfl, hA, hb3, hk3⟩
    rw [byteCells_app, HC.out, HZ2.out] at hA
    have HF : Hid (BS b (wordF l s.data.toList n) w' w3) := Lib.hid ⟨.inr (by unfold wordF; rw [if_neg HL0.out]; simpa using hA), HG2.out.1.trans hb3, HG2.out.2.trans hk3⟩
    clear hA hb3 hk3 HW HG2
    go_wp2
    go_end0
    exact ⟨rfl, HF.out⟩

end Go.Proofs.YtkfjlkpickeobaaDoor

set_option linter.unusedVariables false
set_option linter.unusedSimpArgs false
namespace Go.Proofs.YtkfjlkpickeobaaDoor
open Go.RowKit
open Go.Proofs.YtkfjlkpickeobaaDoorW.PrintWords (Kd Drawn0 Kept rd rdOf)
open Go.Proofs.YtkfjlkpickeobaaDoor.PTaskRuns
set_option maxRecDepth 100000

abbrev sPrio : List UInt8 := [112, 114, 105, 111, 32]
abbrev sGiven : List UInt8 := [103, 105, 118, 101, 110, 32]
abbrev sDone : List UInt8 := [100, 111, 110, 101, 32]
abbrev sCut : List UInt8 := [99, 117, 116, 32]
abbrev sLate : List UInt8 := [108, 97, 116, 101, 32]
abbrev sOpen : List UInt8 := [91]
abbrev sCap : List UInt8 := [99, 97, 112, 32]
abbrev sAt : List UInt8 := [97, 116, 32]
abbrev sDue : List UInt8 := [100, 117, 101, 32]
/-- A task's text without its jobs; a job's text behind another one. -/
def headF (T : Tk) : List UInt8 := wordF (wordF (wordF (wordF (wordF [] sPrio T.p) sGiven T.g) sDone T.d) sCut T.c) sLate T.t
def capF (l : List UInt8) (x : Jb) : List UInt8 := if 0 < x.f1 then wordF (wordF l sOpen x.f0) sCap x.f1 else wordF l sOpen x.f0
def dueF (l : List UInt8) (x : Jb) : List UInt8 := if 0 < x.f3 then wordF l sDue x.f3 else l
def jobF (l : List UInt8) (x : Jb) : List UInt8 := dueF (wordF (capF l x) sAt x.f2) x ++ [93]
def showF (T : Tk) : List UInt8 := T.js.foldl jobF (headF T)
def okN (n : Int) : Prop := 0 ≤ n ∧ n ≤ 2147483648
theorem word_le {l s : List UInt8} {n : Int} {c : Nat} (hl : l.length ≤ c) (hs : s.length ≤ 6) (hn : okN n) : (wordF l s n).length ≤ c + 28 := by
  have := wordF_len l s n (by have := hn.1; omega) (by have := hn.2; omega)
  omega
theorem job_le {l : List UInt8} {x : Jb} {c : Nat} (hl : l.length ≤ c) (hx : jobP x) : (wordF l sOpen x.f0).length ≤ c + 28 ∧ (capF l x).length ≤ c + 56 ∧ (wordF (capF l x) sAt x.f2).length ≤ c + 84 ∧ (dueF (wordF (capF l x) sAt x.f2) x).length ≤ c + 112 ∧ (jobF l x).length ≤ c + 113 := by
  obtain ⟨h0, h1, h2, h3⟩ := hx
  have a1 : (wordF l sOpen x.f0).length ≤ c + 28 := word_le hl (by decide) ⟨by omega, by omega⟩
  have a2 : (capF l x).length ≤ c + 56 := by
    unfold capF; split
    · exact word_le a1 (by decide) ⟨by omega, by omega⟩
    · omega
  have a3 : (wordF (capF l x) sAt x.f2).length ≤ c + 84 := word_le a2 (by decide) ⟨by omega, by omega⟩
  have a4 : (dueF (wordF (capF l x) sAt x.f2) x).length ≤ c + 112 := by
    unfold dueF; split
    · exact word_le a3 (by decide) ⟨by omega, by omega⟩
    · omega
  refine ⟨a1, a2, a3, a4, ?_⟩
  unfold jobF; simp; omega
theorem acc_n {T : Tk} (h : T.okB = true) : okN T.p ∧ okN T.g ∧ okN T.d ∧ okN T.c ∧ okN T.t := by
  have a := Tk.ok_p h
  obtain ⟨⟨b1, b2⟩, b3, b4, b5, b6, b7, b8, b9, b10⟩ := Tk.ok_acc h
  exact ⟨⟨by omega, by omega⟩, ⟨by omega, by omega⟩, ⟨by omega, by omega⟩, ⟨by omega, by omega⟩, ⟨by omega, by omega⟩⟩
theorem head_le {T : Tk} (h : T.okB = true) : (wordF [] sPrio T.p).length ≤ 28 ∧ (wordF (wordF [] sPrio T.p) sGiven T.g).length ≤ 56 ∧ (wordF (wordF (wordF [] sPrio T.p) sGiven T.g) sDone T.d).length ≤ 84 ∧ (wordF (wordF (wordF (wordF [] sPrio T.p) sGiven T.g) sDone T.d) sCut T.c).length ≤ 112 ∧ (headF T).length ≤ 140 := by
  obtain ⟨n1, n2, n3, n4, n5⟩ := acc_n h
  have a1 := word_le (l := []) (s := sPrio) (c := 0) (by simp) (by decide) n1
  have a2 := word_le (s := sGiven) a1 (by decide) n2
  have a3 := word_le (s := sDone) a2 (by decide) n3
  have a4 := word_le (s := sCut) a3 (by decide) n4
  have a5 := word_le (s := sLate) a4 (by decide) n5
  exact ⟨by omega, by omega, by omega, by omega, by unfold headF; omega⟩
theorem fold_le {T : Tk} (h : T.okB = true) : ∀ k, k ≤ T.js.length → ((T.js.take k).foldl jobF (headF T)).length ≤ 140 + 113 * k := by
  intro k
  induction k with
  | zero => intro _; simpa using (head_le h).2.2.2.2
  | succ k ih =>
    intro hk
    have hx : T.js[k]? = some (T.js[k]'(by omega)) := List.getElem?_eq_getElem (by omega)
    have e : T.js.take (k + 1) = T.js.take k ++ [T.js[k]'(by omega)] := by rw [List.take_add_one, hx]; rfl
    rw [e, List.foldl_append]
    have := (job_le (ih (by omega)) (Tk.ok_job h (T.js[k]'(by omega)) (List.getElem_mem (by omega)))).2.2.2.2
    show (jobF ((T.js.take k).foldl jobF (headF T)) (T.js[k]'(by omega))).length ≤ _
    omega

/-- What stands between two words of Show. -/
structure SW (P : Int → Prop) (bw b : Nat) (w : World) (T : Tk) (v : Value) (l : List UInt8) (W : World) : Prop where
  bx : W.heap[bw]? = some (.cells (T.cs v).1 26 (0, 0))
  is : BIs b l W
  be : Below bw w W
  lt : bw < b
  sz : b ≤ W.heap.size
  it : ItOk P b W
section
variable {P : Int → Prop} {bw b : Nat} {w W W' : World} {T : Tk} {v : Value} {l l' : List UInt8}
theorem SW.step (h : SW P bw b w T v l W) (k : BS b l' W W') : SW P bw b w T v l' W' :=
  ⟨k.kt bw _ _ (by decide) (by have := h.lt; omega) h.bx, k.is, h.be.trans (k.be.mono (by have := h.lt; omega)), h.lt, Nat.le_trans h.sz k.be.size, h.it.below k.be⟩
theorem SW.t8 (h : SW P bw b w T v l W) : W.cell? ⟨bw, 0, none⟩ = some (.int .i64 T.p) ∧ W.cell? ⟨bw, 1, none⟩ = some v ∧ W.cell? ⟨bw, 2, none⟩ = some (.int .i64 T.g) ∧ W.cell? ⟨bw, 5, none⟩ = some (.int .i64 T.d) ∧ W.cell? ⟨bw, 6, none⟩ = some (.int .i64 T.c) ∧ W.cell? ⟨bw, 7, none⟩ = some (.int .i64 T.t) := by
  have := h.bx
  refine ⟨?_, ?_, ?_, ?_, ?_, ?_⟩ <;> simp [World.cell?, this]
theorem SW.alloc (h : SW P bw b w T v l W) (o : Obj) : SW P bw b w T v l (W.alloc o) := by
  have hb : Below W.heap.size W (W.alloc o) := (Below.refl _ W).alloc (Nat.le_refl _) o
  have hbw : bw < W.heap.size := (Array.getElem?_eq_some_iff.1 h.bx).1
  exact ⟨(hb.block bw hbw).trans h.bx, isb_below h.is hb, h.be.trans (hb.mono (by omega)), h.lt, Nat.le_trans h.sz hb.size, h.it.below (hb.mono h.sz)⟩
end
theorem word_sw {P : Int → Prop} {bw b : Nat} {w W : World} {T : Tk} {v : Value} {l : List UInt8} (h : SW P bw b w T v l W) (s : ByteArray) (n : Int) (hP : P n) (hn : okN n) (hl : l.length ≤ 100000) (hs : s.size ≤ 100) :
    Calls Tryd.prog 46 #[.string s, .int .i64 n, .pointer (some ⟨b, 0, none⟩)] W fun e W' => e = .returned (.tuple #[]) ∧ SW P bw b w T v (wordF l s.data.toList n) W' ∧ KeepT b W W' ∧ Below b W W' :=
  (word_ok P b l s n W h.it hP h.is hl hs (by have := hn.1; omega) (by have := hn.2; omega) h.sz).mono fun e W' k => ⟨k.1, h.step k.2, k.2.kt, k.2.be⟩

set_option maxHeartbeats 8000000 in
theorem show_yes (P : Int → Prop) (T : Tk) (v : Value) (w : World) (h : TR w v T.js) (hk : T.okB = true) (hi : ItOk P w.heap.size w) (hPT : P T.p ∧ P T.g ∧ P T.d ∧ P T.c ∧ P T.t) (hPJ : ∀ x ∈ T.js, P x.f0 ∧ P x.f1 ∧ P x.f2 ∧ P x.f3) :
    Calls Tryd.prog 26 #[T.v v] w fun e w' => e = .returned (.string ⟨(showF T).toArray⟩) ∧ Below w.heap.size w w' := by
  obtain ⟨A, c, rfl, hc, ho⟩ := h.open
  obtain ⟨js, hjs⟩ : ∃ js, js = T.js := ⟨_, rfl⟩
  obtain ⟨n, hn⟩ : ∃ n, n = T.js.length := ⟨_, rfl⟩
  have hn8 : n ≤ 8 := by rw [hn]; exact Tk.ok_len hk
  rw [← hn] at h hc ⊢
  rw [← hjs] at ho hn h
  obtain ⟨W0, hW0⟩ : ∃ y, y = w.alloc (.cells #[.int .i64 T.p, .slice A n c, .int .i64 T.g, .int .i64 T.o, .int .i64 T.l, .int .i64 T.d, .int .i64 T.c, .int .i64 T.t] 26) := ⟨_, rfl⟩
  have hB0 : Below w.heap.size w W0 := by rw [hW0]; exact (Below.refl _ w).alloc (Nat.le_refl _) _
  have hk0 : W0.heap[w.heap.size]? = some (.cells (T.cs (.slice A n c)).1 26 (0, 0)) := by rw [hW0]; exact alloc_new w _
  have HV := Lib.hid (tvalid_yes T (.slice A n c) W0 (by rw [← hjs]; exact h.below hB0) hk)
  have HO := Lib.hid ho
  have HN := Lib.hid hn
  have HJS := Lib.hid hjs
  have HW0 := Lib.hid hW0
  have HB0 := Lib.hid hB0
  have HK0 := Lib.hid hk0
  have HK := Lib.hid hk
  have HI := Lib.hid hi
  have HPT := Lib.hid hPT
  have HPJ := Lib.hid hPJ
  clear h hk ho hn hjs hW0 hB0 hk0 hi hPT hPJ
  go_enter Tryd.func26, Tryd.ntmps26
  go_wp2_with fail
  rw [← HW0.out]
  obtain ⟨bw, hbw⟩ : ∃ b, b = w.heap.size := ⟨_, rfl⟩
  rw [← hbw]
  have HBW := Lib.hid hbw
  clear hbw
  refine HV.out.mono ?_
  rintro e w1 ⟨rfl, hb⟩
  obtain ⟨b, hbb⟩ : ∃ b, b = w1.heap.size := ⟨_, rfl⟩
  obtain ⟨W2, hW2⟩ : ∃ y, y = w1.alloc (.cells #[.pointer none, .slice none 0 0] 77) := ⟨_, rfl⟩
  have hS : SW P bw b w T (.slice A n c) [] W2 := by
    have k0 := HK0.out
    rw [← HBW.out] at k0
    have k1 := (hb.block bw (Array.getElem?_eq_some_iff.1 k0).1).trans k0
    have hlt : bw < w1.heap.size := (Array.getElem?_eq_some_iff.1 k1).1
    have bb : Below w1.heap.size w1 W2 := by rw [hW2]; exact (Below.refl _ w1).alloc (Nat.le_refl _) _
    have be1 : Below bw w w1 := by rw [HBW.out]; exact below_call HB0.out (Nat.le_refl _) hb
    have be2 : Below bw w W2 := be1.trans (bb.mono (by omega))
    refine ⟨(bb.block bw hlt).trans k1, ?_, be2, by omega, by have := bb.size; omega, ?_⟩
    · rw [hW2, hbb]; exact Lib.fresh_isBuilder 77 5 w1
    · have hi := HI.out
      rw [← HBW.out] at hi
      exact (hi.below be2).mono (by omega)
  have HS0 := Lib.hid hS
  have HL := Lib.hid (head_le HK.out)
  have HNN := Lib.hid (acc_n HK.out)
  have HW2 := Lib.hid hW2
  have HBB := Lib.hid hbb
  have hk1 : w1.heap[bw]? = some (.cells (T.cs (.slice A n c)).1 26 (0, 0)) := by
    have k0 := HK0.out
    rw [← HBW.out] at k0
    exact (hb.block bw (Array.getElem?_eq_some_iff.1 k0).1).trans k0
  have t0 : w1.cell? ⟨bw, 0, none⟩ = some (.int .i64 T.p) := by simp [World.cell?, hk1]
  have t1 : bw < w1.heap.size := (Array.getElem?_eq_some_iff.1 hk1).1
  have t2 := True.intro
  have t3 := True.intro
  have t4 := True.intro
  have t5 := True.intro
  clear hb hS hW2 hbb hk1
  go_wp2_with fail
  rw [← HW2.out, ← HBB.out]
  refine (word_sw HS0.out ⟨#[112, 114, 105, 111, 32]⟩ T.p HPT.out.1 HNN.out.1 (by simp) (by decide)).mono ?_
  rintro e wd1 ⟨rfl, hS, -, -⟩
  have HS1 : Hid (SW P bw b w T (.slice A n c) (wordF [] sPrio T.p) wd1) := Lib.hid hS
  clear hS HS0 t0 t1 t2 t3 t4 t5
  obtain ⟨t0, t1, t2, t3, t4, t5⟩ := HS1.out.t8
  go_wp2_with fail
  refine (word_sw HS1.out ⟨#[103, 105, 118, 101, 110, 32]⟩ T.g HPT.out.2.1 HNN.out.2.1 (by have := HL.out.1; omega) (by decide)).mono ?_
  rintro e wd2 ⟨rfl, hS, -, -⟩
  have HS2 : Hid (SW P bw b w T (.slice A n c) (wordF (wordF [] sPrio T.p) sGiven T.g) wd2) := Lib.hid hS
  clear hS HS1 t0 t1 t2 t3 t4 t5
  obtain ⟨t0, t1, t2, t3, t4, t5⟩ := HS2.out.t8
  go_wp2_with fail
  refine (word_sw HS2.out ⟨#[100, 111, 110, 101, 32]⟩ T.d HPT.out.2.2.1 HNN.out.2.2.1 (by have := HL.out.2.1; omega) (by decide)).mono ?_
  rintro e wd3 ⟨rfl, hS, -, -⟩
  have HS3 : Hid (SW P bw b w T (.slice A n c) (wordF (wordF (wordF [] sPrio T.p) sGiven T.g) sDone T.d) wd3) := Lib.hid hS
  clear hS HS2 t0 t1 t2 t3 t4 t5
  obtain ⟨t0, t1, t2, t3, t4, t5⟩ := HS3.out.t8
  go_wp2_with fail
  refine (word_sw HS3.out ⟨#[99, 117, 116, 32]⟩ T.c HPT.out.2.2.2.1 HNN.out.2.2.2.1 (by have := HL.out.2.2.1; omega) (by decide)).mono ?_
  rintro e wd4 ⟨rfl, hS, -, -⟩
  have HS4 : Hid (SW P bw b w T (.slice A n c) (wordF (wordF (wordF (wordF [] sPrio T.p) sGiven T.g) sDone T.d) sCut T.c) wd4) := Lib.hid hS
  clear hS HS3 t0 t1 t2 t3 t4 t5
  obtain ⟨t0, t1, t2, t3, t4, t5⟩ := HS4.out.t8
  go_wp2_with fail
  refine (word_sw HS4.out ⟨#[108, 97, 116, 101, 32]⟩ T.t HPT.out.2.2.2.2 HNN.out.2.2.2.2 (by have := HL.out.2.2.2.1; omega) (by decide)).mono ?_
  rintro e wd5 ⟨rfl, hS, -, -⟩
  have HS5 : Hid (SW P bw b w T (.slice A n c) (wordF (wordF (wordF (wordF (wordF [] sPrio T.p) sGiven T.g) sDone T.d) sCut T.c) sLate T.t) wd5) := Lib.hid hS
  clear hS HS4 t0 t1 t2 t3 t4 t5
  have HF : Hid (SW P bw b w T (.slice A n c) (headF T) wd5) := HS5
  obtain ⟨t0, t1, t2, t3, t4, t5⟩ := HF.out.t8
  clear HS5
  go_wp2_with fail
  go_loopw [38] (fun i wr => ∃ k : Nat, k ≤ n ∧ i = .int .i64 k ∧ Hid (SW P bw b w T (.slice A n c) ((js.take k).foldl jobF (headF T)) wr)) (fun i _ => n - (intOf i).toNat)
  case atStart => exact ⟨0, Nat.zero_le _, rfl, HF⟩
  case round =>
    clear t0 t1 t2 t3 t4 t5 HF
    obtain ⟨k, hk, rfl, hS⟩ := hrel
    by_cases hlt : k < n
    · obtain ⟨x, hx⟩ : ∃ x, js[k]? = some x := ⟨_, List.getElem?_eq_getElem (by have := HN.out; omega)⟩
      obtain ⟨ab, ao, rfl, hy⟩ := HO.out k x hx
      have hxm : x ∈ T.js := by rw [← HJS.out]; exact List.mem_of_getElem? hx
      have HXP := Lib.hid (Tk.ok_job HK.out x hxm)
      have HXN := Lib.hid (HPJ.out x hxm)
      obtain ⟨L, hL⟩ : ∃ L, L = (js.take k).foldl jobF (headF T) := ⟨_, rfl⟩
      rw [← hL] at hS
      have HTS := Lib.hid (show (js.take (k + 1)).foldl jobF (headF T) = jobF L x by rw [List.take_add_one, hx, List.foldl_append, ← hL]; rfl)
      have HLL := Lib.hid (job_le (show L.length ≤ 1100 by have := fold_le HK.out k (by rw [← HJS.out]; have := HN.out; omega); rw [← HJS.out, ← hL] at this; omega) HXP.out)
      have hLL : L.length ≤ 1100 := by have := fold_le HK.out k (by rw [← HJS.out]; have := HN.out; omega); rw [← HJS.out, ← hL] at this; omega
      obtain ⟨y0, y1, y2, y3⟩ := hy.below (by have := hS.out.be; rw [HBW.out] at this; exact this)
      obtain ⟨jb, hjb⟩ : ∃ jb, jb = wr.heap.size := ⟨_, rfl⟩
      obtain ⟨W6, hW6⟩ : ∃ y, y = wr.alloc (.cells #[.int .i64 x.f0, .int .i64 x.f1, .int .i64 x.f2, .int .i64 x.f3] 28) := ⟨_, rfl⟩
      have hj6 : W6.heap[jb]? = some (.cells (jcs x).1 28 (0, 0)) := by rw [hW6, hjb]; exact alloc_new wr _
      have HS6 : Hid (SW P bw b w T (.slice (some ⟨ab, ao, none⟩) n c) L W6) := by rw [hW6]; exact Lib.hid (hS.out.alloc _)
      have hlb : b < wr.heap.size := (hS.out.is).elim (fun h => h.lt) (fun h => h.lt)
      have hne : jb ≠ b := by omega
      have HJ6 := Lib.hid hj6
      have HW6 := Lib.hid hW6
      have HJB := Lib.hid hjb
      clear hx hy hxm hL hS hj6 hW6 hjb
      go_wp2_with fail
      rw [← HW6.out, ← HJB.out]
      refine (word_sw HS6.out ⟨#[91]⟩ x.f0 HXN.out.1 ⟨by have := HXP.out.1; omega, by have := HXP.out.1; omega⟩ (by omega) (by decide)).mono ?_
      rintro e w7 ⟨rfl, hS, hkt, -⟩
      have HS7 : Hid (SW P bw b w T (.slice (some ⟨ab, ao, none⟩) n c) (wordF L sOpen x.f0) w7) := Lib.hid hS
      have HJ7 := Lib.hid (hkt jb _ _ (by decide) hne HJ6.out)
      obtain ⟨j0, j1, j2, j3⟩ := box_cells (x := x) HJ7.out
      clear hS hkt HS6 HJ6 y0 y1 y2 y3
      by_cases hcp : 0 < x.f1
      · have t1 : decide (0 < x.f1) = true := decide_eq_true hcp
        have HCP := Lib.hid hcp
        clear hcp
        go_wp2_with fail
        refine (word_sw HS7.out ⟨#[99, 97, 112, 32]⟩ x.f1 HXN.out.2.1 ⟨by have := HXP.out.2.1; omega, by have := HXP.out.2.1; omega⟩ (by have := HLL.out.1; omega) (by decide)).mono ?_
        rintro e w8 ⟨rfl, hS, hkt, -⟩
        have HSx := Lib.hid hS
        have HJ8 := Lib.hid (hkt jb _ _ (by decide) hne HJ7.out)
        clear hS hkt HS7 HJ7 j0 j1 j2 j3
        have HS8 : Hid (SW P bw b w T (.slice (some ⟨ab, ao, none⟩) n c) (capF L x) w8) := Lib.hid (by unfold capF; rw [if_pos HCP.out]; exact HSx.out)
        obtain ⟨j0, j1, j2, j3⟩ := box_cells (x := x) HJ8.out
        clear HSx
        go_wp2_with fail
        refine (word_sw HS8.out ⟨#[97, 116, 32]⟩ x.f2 HXN.out.2.2.1 ⟨by have := HXP.out.2.2.1; omega, by have := HXP.out.2.2.1; omega⟩ (by have := HLL.out.2.1; omega) (by decide)).mono ?_
        rintro e w9 ⟨rfl, hS, hkt, -⟩
        have HS9 : Hid (SW P bw b w T (.slice (some ⟨ab, ao, none⟩) n c) (wordF (capF L x) sAt x.f2) w9) := Lib.hid hS
        have HJ9 := Lib.hid (hkt jb _ _ (by decide) hne HJ8.out)
        clear hS hkt HS8 j0 j1 j2 j3
        obtain ⟨j0, j1, j2, j3⟩ := box_cells (x := x) HJ9.out
        by_cases hd : 0 < x.f3
        · have t2 : decide (0 < x.f3) = true := decide_eq_true hd
          have HD := Lib.hid hd
          clear hd
          go_wp2_with fail
          refine (word_sw HS9.out ⟨#[100, 117, 101, 32]⟩ x.f3 HXN.out.2.2.2 ⟨by have := HXP.out.2.2.2; omega, by have := HXP.out.2.2.2; omega⟩ (by have := HLL.out.2.2.1; omega) (by decide)).mono ?_
          rintro e wa ⟨rfl, hS, hkt, -⟩
          have HSA : Hid (SW P bw b w T (.slice (some ⟨ab, ao, none⟩) n c) (dueF (wordF (capF L x) sAt x.f2) x) wa) := Lib.hid (by unfold dueF; rw [if_pos HD.out]; exact hS)
          clear hS hkt HS9 j0 j1 j2 j3 HJ9
          go_wp2_with fail
          refine (writeByteT b b (Lib.byteCells (dueF (wordF (capF L x) sAt x.f2) x)) 93 wa HSA.out.is (by rw [Lib.byteCells_length]; have := HLL.out.2.2.2.1; omega) HSA.out.sz).mono ?_
          rintro e wb ⟨rfl, hA, hb1, hk1⟩
          rw [byteCells_93] at hA
          have HSB : Hid (SW P bw b w T (.slice (some ⟨ab, ao, none⟩) n c) ((js.take (k + 1)).foldl jobF (headF T)) wb) := Lib.hid (by rw [HTS.out]; exact HSA.out.step ⟨.inr hA, hb1, hk1⟩)
          clear hA hb1 hk1 HSA
          go_wp2
          go_roundw
          case rel => exact ⟨k + 1, by omega, by go_num, HSB⟩
          case measure => simp [intOf]; omega
        · have t2 : decide (0 < x.f3) = false := decide_eq_false hd
          have HSA : Hid (SW P bw b w T (.slice (some ⟨ab, ao, none⟩) n c) (dueF (wordF (capF L x) sAt x.f2) x) w9) := Lib.hid (by unfold dueF; rw [if_neg hd]; exact HS9.out)
          clear HS9 HJ9
          go_wp2_with fail
          refine (writeByteT b b (Lib.byteCells (dueF (wordF (capF L x) sAt x.f2) x)) 93 w9 HSA.out.is (by rw [Lib.byteCells_length]; have := HLL.out.2.2.2.1; omega) HSA.out.sz).mono ?_
          rintro e wb ⟨rfl, hA, hb1, hk1⟩
          rw [byteCells_93] at hA
          have HSB : Hid (SW P bw b w T (.slice (some ⟨ab, ao, none⟩) n c) ((js.take (k + 1)).foldl jobF (headF T)) wb) := Lib.hid (by rw [HTS.out]; exact HSA.out.step ⟨.inr hA, hb1, hk1⟩)
          clear hA hb1 hk1 HSA
          go_wp2
          go_roundw
          case rel => exact ⟨k + 1, by omega, by go_num, HSB⟩
          case measure => simp [intOf]; omega
      · have t1 : decide (0 < x.f1) = false := decide_eq_false hcp
        clear j0 j1 j2 j3
        have HS8 : Hid (SW P bw b w T (.slice (some ⟨ab, ao, none⟩) n c) (capF L x) w7) := Lib.hid (by unfold capF; rw [if_neg hcp]; exact HS7.out)
        obtain ⟨j0, j1, j2, j3⟩ := box_cells (x := x) HJ7.out
        clear HS7
        go_wp2_with fail
        refine (word_sw HS8.out ⟨#[97, 116, 32]⟩ x.f2 HXN.out.2.2.1 ⟨by have := HXP.out.2.2.1; omega, by have := HXP.out.2.2.1; omega⟩ (by have := HLL.out.2.1; omega) (by decide)).mono ?_
        rintro e w9 ⟨rfl, hS, hkt, -⟩
        have HS9 : Hid (SW P bw b w T (.slice (some ⟨ab, ao, none⟩) n c) (wordF (capF L x) sAt x.f2) w9) := Lib.hid hS
        have HJ9 := Lib.hid (hkt jb _ _ (by decide) hne HJ7.out)
        clear hS hkt HS8 j0 j1 j2 j3
        obtain ⟨j0, j1, j2, j3⟩ := box_cells (x := x) HJ9.out
        by_cases hd : 0 < x.f3
        · have t2 : decide (0 < x.f3) = true := decide_eq_true hd
          have HD := Lib.hid hd
          clear hd
          go_wp2_with fail
          refine (word_sw HS9.out ⟨#[100, 117, 101, 32]⟩ x.f3 HXN.out.2.2.2 ⟨by have := HXP.out.2.2.2; omega, by have := HXP.out.2.2.2; omega⟩ (by have := HLL.out.2.2.1; omega) (by decide)).mono ?_
          rintro e wa ⟨rfl, hS, hkt, -⟩
          have HSA : Hid (SW P bw b w T (.slice (some ⟨ab, ao, none⟩) n c) (dueF (wordF (capF L x) sAt x.f2) x) wa) := Lib.hid (by unfold dueF; rw [if_pos HD.out]; exact hS)
          clear hS hkt HS9 j0 j1 j2 j3 HJ9
          go_wp2_with fail
          refine (writeByteT b b (Lib.byteCells (dueF (wordF (capF L x) sAt x.f2) x)) 93 wa HSA.out.is (by rw [Lib.byteCells_length]; have := HLL.out.2.2.2.1; omega) HSA.out.sz).mono ?_
          rintro e wb ⟨rfl, hA, hb1, hk1⟩
          rw [byteCells_93] at hA
          have HSB : Hid (SW P bw b w T (.slice (some ⟨ab, ao, none⟩) n c) ((js.take (k + 1)).foldl jobF (headF T)) wb) := Lib.hid (by rw [HTS.out]; exact HSA.out.step ⟨.inr hA, hb1, hk1⟩)
          clear hA hb1 hk1 HSA
          go_wp2
          go_roundw
          case rel => exact ⟨k + 1, by omega, by go_num, HSB⟩
          case measure => simp [intOf]; omega
        · have t2 : decide (0 < x.f3) = false := decide_eq_false hd
          have HSA : Hid (SW P bw b w T (.slice (some ⟨ab, ao, none⟩) n c) (dueF (wordF (capF L x) sAt x.f2) x) w9) := Lib.hid (by unfold dueF; rw [if_neg hd]; exact HS9.out)
          clear HS9 HJ9
          go_wp2_with fail
          refine (writeByteT b b (Lib.byteCells (dueF (wordF (capF L x) sAt x.f2) x)) 93 w9 HSA.out.is (by rw [Lib.byteCells_length]; have := HLL.out.2.2.2.1; omega) HSA.out.sz).mono ?_
          rintro e wb ⟨rfl, hA, hb1, hk1⟩
          rw [byteCells_93] at hA
          have HSB : Hid (SW P bw b w T (.slice (some ⟨ab, ao, none⟩) n c) ((js.take (k + 1)).foldl jobF (headF T)) wb) := Lib.hid (by rw [HTS.out]; exact HSA.out.step ⟨.inr hA, hb1, hk1⟩)
          clear hA hb1 hk1 HSA
          go_wp2
          go_roundw
          case rel => exact ⟨k + 1, by omega, by go_num, HSB⟩
          case measure => simp [intOf]; omega
    · obtain rfl : k = n := by omega
      rw [show js.take k = js by rw [HN.out, List.take_length]] at hS
      have HSt := Lib.hid (Tryd.Builder_String_any b b _ wr hS.out.is hS.out.sz)
      go_wp2_with fail
      refine HSt.out.mono ?_
      rintro e wz ⟨rfl, hb⟩
      have HBZ := Lib.hid (show Below w.heap.size w wz by have := hS.out.be; rw [← HBW.out]; exact this.trans (hb.mono (by have := hS.out.lt; omega)))
      clear hb
      go_wp2
      go_ret
      refine ⟨?_, HBZ.out⟩
      unfold showF
      rw [HJS.out]
      rfl

end Go.Proofs.YtkfjlkpickeobaaDoor

set_option linter.unusedVariables false
set_option linter.unusedSimpArgs false
namespace Go.Proofs.YtkfjlkpickeobaaDoor
open Go.RowKit
open Go.Proofs.YtkfjlkpickeobaaDoorW.PrintWords (Kd Drawn0 Kept rd rdOf ReadsRow)
open Go.Proofs.YtkfjlkpickeobaaDoor.PTaskRuns
set_option maxRecDepth 100000

abbrev kT : Tk := ⟨3, [], 0, 0, 0, 0, 0, 0⟩
abbrev kA : Tk := ⟨3, [⟨2, 0, 10, 5⟩], 0, 0, 0, 0, 0, 0⟩
abbrev kB : Tk := ⟨3, [⟨1, 0, 10, 5⟩], 1, 1, 0, 0, 0, 0⟩
abbrev kC : Tk := ⟨3, [], 2, 2, 0, 1, 0, 1⟩
abbrev kD : Tk := ⟨3, [⟨3, 1, 0, 0⟩], 0, 0, 0, 0, 0, 0⟩
abbrev kE : Tk := ⟨3, [], 1, 1, 0, 0, 1, 0⟩
theorem kw1 : pushF kT ⟨2, 0, 0, 5⟩ 10 = (kA, 0) := by rfl
theorem kw2 : runF kA 10 = (kB, 0, 0, 0) := by rfl
theorem kw3 : runF kB 20 = (kC, 1, 6, 0) := by rfl
theorem kw4 : pushF kT ⟨3, 1, 0, 0⟩ 0 = (kD, 0) := by rfl
theorem kw5 : runF kD 0 = (kE, 2, 0, 0) := by rfl
abbrev kText : List UInt8 := [112, 114, 105, 111, 32, 51, 32, 103, 105, 118, 101, 110, 32, 48, 32, 100, 111, 110, 101, 32, 48, 32, 99, 117, 116, 32, 48, 32, 108, 97, 116, 101, 32, 48]
theorem kw6 : showF kT = kText := by
  have e3 : Lib.itoa (3 : Int) = [51] := by rw [show (3 : Int) = ((3 : Nat) : Int) from rfl, Lib.itoa_nonneg, Lib.decDigits_one (by decide)]; rfl
  have e0 : Lib.itoa (0 : Int) = [48] := by rw [show (0 : Int) = ((0 : Nat) : Int) from rfl, Lib.itoa_nonneg, Lib.decDigits_one (by decide)]; rfl
  simp [showF, headF, wordF, e3, e0]

set_option maxHeartbeats 8000000 in
theorem works_ok (w : World) : Calls Tryd.prog 15 #[] w fun e w' => e = .returned (.bool true) ∧ Below w.heap.size w w' := by
  have HBw := Lib.hid (Below.refl w.heap.size w)
  have HBW := True.intro
  go_enter Tryd.func15, Tryd.ntmps15
  go_wp2_with fail
  refine (new_yes 3 _ (by decide)).mono ?_
  rintro e w1 ⟨v1, rfl, hR, hb⟩
  obtain ⟨A1, c1, rfl⟩ := Kd.R_slice hR
  have HBw1 := Lib.hid (below_call HBw.out (by first | exact Nat.le_refl _ | (have := HBW.out; omega)) hb)
  clear HBw
  obtain ⟨bt, hbt⟩ : ∃ y, y = w1.heap.size := ⟨_, rfl⟩
  obtain ⟨Wt, hWt⟩ : ∃ y, y = w1.alloc (.cells (Tk.cs kT (.slice A1 0 c1)).1 26) := ⟨_, rfl⟩
  have HXt : Hid (TX Wt bt kT (.slice A1 0 c1)) := by rw [hWt, hbt]; exact Lib.hid (TX.new (TR.of_R hR))
  have HBWt : Hid (Below w.heap.size w Wt) := by rw [hWt]; exact Lib.hid (below_alloc HBw1.out (Nat.le_refl _) _)
  have HWt := Lib.hid hWt
  have Hbt := Lib.hid hbt
  clear hWt hbt HBw1
  clear hb
  go_wp2_with fail
  rw [← HWt.out, ← Hbt.out]
  refine (tpush_any kT _ ⟨2, 0, 0, 5⟩ 10 _ HXt.out.tr (by decide)).mono ?_
  rintro e w2 ⟨v2, he, hR, hb⟩
  have HBw2 := Lib.hid (below_call HBWt.out (by first | exact Nat.le_refl _ | (have := HBW.out; omega)) hb)
  replace HXt := Lib.hid (HXt.out.below hb)
  rw [kw1] at he hR
  dsimp only at he hR
  rw [errV_0] at he
  subst he
  obtain ⟨A2, c2, rfl⟩ := Kd.R_slice hR
  clear HBWt
  obtain ⟨ba, hba⟩ : ∃ y, y = w2.heap.size := ⟨_, rfl⟩
  obtain ⟨Wa, hWa⟩ : ∃ y, y = w2.alloc (.cells (Tk.cs kA (.slice A2 1 c2)).1 26) := ⟨_, rfl⟩
  have HPt := HXt
  replace HXt : Hid (TX Wa bt kT (.slice A1 0 c1)) := by rw [hWa]; exact Lib.hid (HXt.out.alloc _)
  have HXa : Hid (TX Wa ba kA (.slice A2 1 c2)) := by rw [hWa, hba]; exact Lib.hid (TX.new (TR.of_R hR))
  have HBWa : Hid (Below w.heap.size w Wa) := by rw [hWa]; exact Lib.hid (below_alloc HBw2.out (Nat.le_refl _) _)
  have HWa := Lib.hid hWa
  have Hba := Lib.hid hba
  clear hWa hba HBw2
  clear hb
  go_wp2_with fail
  rw [← HWa.out, ← Hba.out]
  clear HPt
  refine (trun_any kA _ 10 _ HXa.out.tr (by decide)).mono ?_
  rintro e w3 ⟨v3, he, hR, hb⟩
  have HBw3 := Lib.hid (below_call HBWa.out (by first | exact Nat.le_refl _ | (have := HBW.out; omega)) hb)
  replace HXt := Lib.hid (HXt.out.below hb)
  replace HXa := Lib.hid (HXa.out.below hb)
  rw [kw2] at he hR
  dsimp only at he hR
  rw [errV_0] at he
  subst he
  obtain ⟨A3, c3, rfl⟩ := Kd.R_slice hR
  clear HBWa
  obtain ⟨bb, hbb⟩ : ∃ y, y = w3.heap.size := ⟨_, rfl⟩
  obtain ⟨Wb, hWb⟩ : ∃ y, y = w3.alloc (.cells (Tk.cs kB (.slice A3 1 c3)).1 26) := ⟨_, rfl⟩
  have HPt := HXt
  have HPa := HXa
  replace HXt : Hid (TX Wb bt kT (.slice A1 0 c1)) := by rw [hWb]; exact Lib.hid (HXt.out.alloc _)
  replace HXa : Hid (TX Wb ba kA (.slice A2 1 c2)) := by rw [hWb]; exact Lib.hid (HXa.out.alloc _)
  have HXb : Hid (TX Wb bb kB (.slice A3 1 c3)) := by rw [hWb, hbb]; exact Lib.hid (TX.new (TR.of_R hR))
  have HBWb : Hid (Below w.heap.size w Wb) := by rw [hWb]; exact Lib.hid (below_alloc HBw3.out (Nat.le_refl _) _)
  have HWb := Lib.hid hWb
  have Hbb := Lib.hid hbb
  clear hWb hbb HBw3
  clear hb
  go_wp2_with fail
  rw [← HWb.out, ← Hbb.out]
  clear HPt HPa
  refine (trun_any kB _ 20 _ HXb.out.tr (by decide)).mono ?_
  rintro e w4 ⟨v4, he, hR, hb⟩
  have HBw4 := Lib.hid (below_call HBWb.out (by first | exact Nat.le_refl _ | (have := HBW.out; omega)) hb)
  replace HXt := Lib.hid (HXt.out.below hb)
  replace HXa := Lib.hid (HXa.out.below hb)
  replace HXb := Lib.hid (HXb.out.below hb)
  rw [kw3] at he hR
  dsimp only at he hR
  rw [errV_0] at he
  subst he
  obtain ⟨A4, c4, rfl⟩ := Kd.R_slice hR
  clear HBWb
  obtain ⟨bc, hbc⟩ : ∃ y, y = w4.heap.size := ⟨_, rfl⟩
  obtain ⟨Wc, hWc⟩ : ∃ y, y = w4.alloc (.cells (Tk.cs kC (.slice A4 0 c4)).1 26) := ⟨_, rfl⟩
  have HPt := HXt
  have HPa := HXa
  have HPb := HXb
  replace HXt : Hid (TX Wc bt kT (.slice A1 0 c1)) := by rw [hWc]; exact Lib.hid (HXt.out.alloc _)
  replace HXa : Hid (TX Wc ba kA (.slice A2 1 c2)) := by rw [hWc]; exact Lib.hid (HXa.out.alloc _)
  replace HXb : Hid (TX Wc bb kB (.slice A3 1 c3)) := by rw [hWc]; exact Lib.hid (HXb.out.alloc _)
  have HXc : Hid (TX Wc bc kC (.slice A4 0 c4)) := by rw [hWc, hbc]; exact Lib.hid (TX.new (TR.of_R hR))
  have HBWc : Hid (Below w.heap.size w Wc) := by rw [hWc]; exact Lib.hid (below_alloc HBw4.out (Nat.le_refl _) _)
  have HWc := Lib.hid hWc
  have Hbc := Lib.hid hbc
  clear hWc hbc HBw4
  clear hb
  obtain ⟨tt_0, tt_1, tt_2, tt_3, tt_4, tt_5, tt_6, tt_7⟩ := HPt.out.t8
  have lt := HPt.out.lt
  go_wp2_with fail
  rw [← HWc.out, ← Hbc.out]
  clear HPt HPa HPb
  clear tt_0 tt_1 tt_2 tt_3 tt_4 tt_5 tt_6 tt_7 lt
  clear HXb
  refine (tpush_any kT _ ⟨3, 1, 0, 0⟩ 0 _ HXt.out.tr (by decide)).mono ?_
  rintro e w5 ⟨v5, he, hR, hb⟩
  have HBw5 := Lib.hid (below_call HBWc.out (by first | exact Nat.le_refl _ | (have := HBW.out; omega)) hb)
  replace HXt := Lib.hid (HXt.out.below hb)
  replace HXa := Lib.hid (HXa.out.below hb)
  replace HXc := Lib.hid (HXc.out.below hb)
  rw [kw4] at he hR
  dsimp only at he hR
  rw [errV_0] at he
  subst he
  obtain ⟨A5, c5, rfl⟩ := Kd.R_slice hR
  clear HBWc
  obtain ⟨bd, hbd⟩ : ∃ y, y = w5.heap.size := ⟨_, rfl⟩
  obtain ⟨Wd, hWd⟩ : ∃ y, y = w5.alloc (.cells (Tk.cs kD (.slice A5 1 c5)).1 26) := ⟨_, rfl⟩
  have HPt := HXt
  have HPa := HXa
  have HPc := HXc
  replace HXt : Hid (TX Wd bt kT (.slice A1 0 c1)) := by rw [hWd]; exact Lib.hid (HXt.out.alloc _)
  replace HXa : Hid (TX Wd ba kA (.slice A2 1 c2)) := by rw [hWd]; exact Lib.hid (HXa.out.alloc _)
  replace HXc : Hid (TX Wd bc kC (.slice A4 0 c4)) := by rw [hWd]; exact Lib.hid (HXc.out.alloc _)
  have HXd : Hid (TX Wd bd kD (.slice A5 1 c5)) := by rw [hWd, hbd]; exact Lib.hid (TX.new (TR.of_R hR))
  have HBWd : Hid (Below w.heap.size w Wd) := by rw [hWd]; exact Lib.hid (below_alloc HBw5.out (Nat.le_refl _) _)
  have HWd := Lib.hid hWd
  have Hbd := Lib.hid hbd
  clear hWd hbd HBw5
  clear hb
  go_wp2_with fail
  rw [← HWd.out, ← Hbd.out]
  clear HPt HPa HPc
  refine (trun_any kD _ 0 _ HXd.out.tr (by decide)).mono ?_
  rintro e w6 ⟨v6, he, hR, hb⟩
  have HBw6 := Lib.hid (below_call HBWd.out (by first | exact Nat.le_refl _ | (have := HBW.out; omega)) hb)
  replace HXt := Lib.hid (HXt.out.below hb)
  replace HXa := Lib.hid (HXa.out.below hb)
  replace HXc := Lib.hid (HXc.out.below hb)
  replace HXd := Lib.hid (HXd.out.below hb)
  rw [kw5] at he hR
  dsimp only at he hR
  rw [errV_0] at he
  subst he
  obtain ⟨A6, c6, rfl⟩ := Kd.R_slice hR
  clear HBWd
  obtain ⟨be, hbe⟩ : ∃ y, y = w6.heap.size := ⟨_, rfl⟩
  obtain ⟨We, hWe⟩ : ∃ y, y = w6.alloc (.cells (Tk.cs kE (.slice A6 0 c6)).1 26) := ⟨_, rfl⟩
  have HPt := HXt
  have HPa := HXa
  have HPc := HXc
  have HPd := HXd
  replace HXt : Hid (TX We bt kT (.slice A1 0 c1)) := by rw [hWe]; exact Lib.hid (HXt.out.alloc _)
  replace HXa : Hid (TX We ba kA (.slice A2 1 c2)) := by rw [hWe]; exact Lib.hid (HXa.out.alloc _)
  replace HXc : Hid (TX We bc kC (.slice A4 0 c4)) := by rw [hWe]; exact Lib.hid (HXc.out.alloc _)
  replace HXd : Hid (TX We bd kD (.slice A5 1 c5)) := by rw [hWe]; exact Lib.hid (HXd.out.alloc _)
  have HXe : Hid (TX We be kE (.slice A6 0 c6)) := by rw [hWe, hbe]; exact Lib.hid (TX.new (TR.of_R hR))
  have HBWe : Hid (Below w.heap.size w We) := by rw [hWe]; exact Lib.hid (below_alloc HBw6.out (Nat.le_refl _) _)
  have HWe := Lib.hid hWe
  have Hbe := Lib.hid hbe
  clear hWe hbe HBw6
  clear hb
  go_wp2_with fail
  rw [← HWe.out, ← Hbe.out]
  clear HPt HPa HPc HPd
  clear HXd
  clear HXe
  refine (new_no 32 _ (by decide)).mono ?_
  rintro e w7 ⟨v7, rfl, hR, hb⟩
  obtain ⟨A7, c7, rfl⟩ := Kd.R_slice hR
  have HBw7 := Lib.hid (below_call HBWe.out (by first | exact Nat.le_refl _ | (have := HBW.out; omega)) hb)
  replace HXt := Lib.hid (HXt.out.below hb)
  replace HXa := Lib.hid (HXa.out.below hb)
  replace HXc := Lib.hid (HXc.out.below hb)
  clear HBWe
  obtain ⟨bf, hbf⟩ : ∃ y, y = w7.heap.size := ⟨_, rfl⟩
  obtain ⟨Wf, hWf⟩ : ∃ y, y = w7.alloc (.cells (Tk.cs zT (.slice A7 0 c7)).1 26) := ⟨_, rfl⟩
  have HPt := HXt
  have HPa := HXa
  have HPc := HXc
  replace HXt : Hid (TX Wf bt kT (.slice A1 0 c1)) := by rw [hWf]; exact Lib.hid (HXt.out.alloc _)
  replace HXa : Hid (TX Wf ba kA (.slice A2 1 c2)) := by rw [hWf]; exact Lib.hid (HXa.out.alloc _)
  replace HXc : Hid (TX Wf bc kC (.slice A4 0 c4)) := by rw [hWf]; exact Lib.hid (HXc.out.alloc _)
  have HXf : Hid (TX Wf bf zT (.slice A7 0 c7)) := by rw [hWf, hbf]; exact Lib.hid (TX.new (TR.of_R hR))
  have HBWf : Hid (Below w.heap.size w Wf) := by rw [hWf]; exact Lib.hid (below_alloc HBw7.out (Nat.le_refl _) _)
  have HWf := Lib.hid hWf
  have Hbf := Lib.hid hbf
  clear hWf hbf HBw7
  clear hb
  obtain ⟨ta_0, ta_1, ta_2, ta_3, ta_4, ta_5, ta_6, ta_7⟩ := HPa.out.t8
  have la := HPa.out.lt
  go_wp2_with fail
  rw [← HWf.out, ← Hbf.out]
  clear HPt HPa HPc
  clear ta_0 ta_1 ta_2 ta_3 ta_4 ta_5 ta_6 ta_7 la
  refine (tready_c kA _ true _ HXa.out.tr (by decide)).mono ?_
  rintro e w8 ⟨rfl, hb⟩
  have HBw8 := Lib.hid (below_call HBWf.out (by first | exact Nat.le_refl _ | (have := HBW.out; omega)) hb)
  replace HXt := Lib.hid (HXt.out.below hb)
  replace HXa := Lib.hid (HXa.out.below hb)
  replace HXc := Lib.hid (HXc.out.below hb)
  replace HXf := Lib.hid (HXf.out.below hb)
  clear HBWf
  clear hb
  obtain ⟨tc_0, tc_1, tc_2, tc_3, tc_4, tc_5, tc_6, tc_7⟩ := HXc.out.t8
  have lc := HXc.out.lt
  go_wp2_with fail
  clear tc_0 tc_1 tc_2 tc_3 tc_4 tc_5 tc_6 tc_7 lc
  refine (num_errno 2 _).mono ?_
  rintro e w_ ⟨rfl, rfl⟩
  obtain ⟨tt_0, tt_1, tt_2, tt_3, tt_4, tt_5, tt_6, tt_7⟩ := HXt.out.t8
  have lt := HXt.out.lt
  go_wp2_with fail
  clear tt_0 tt_1 tt_2 tt_3 tt_4 tt_5 tt_6 tt_7 lt
  refine (show_yes Small kT _ _ HXt.out.tr (by rfl) (itOk_small _ _) (by unfold Small; decide) (by simp)).mono ?_
  rintro e w9 ⟨he, hb⟩
  have HBw9 := Lib.hid (below_call HBw8.out (by first | exact Nat.le_refl _ | (have := HBW.out; omega)) hb)
  replace HXt := Lib.hid (HXt.out.below hb)
  replace HXa := Lib.hid (HXa.out.below hb)
  replace HXc := Lib.hid (HXc.out.below hb)
  replace HXf := Lib.hid (HXf.out.below hb)
  rw [kw6] at he
  subst he
  clear HBw8
  clear hb
  go_wp2
  go_ret
  exact ⟨rfl, HBw9.out⟩

end Go.Proofs.YtkfjlkpickeobaaDoor
