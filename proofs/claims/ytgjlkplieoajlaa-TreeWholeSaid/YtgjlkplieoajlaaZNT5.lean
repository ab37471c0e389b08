/- Of the text NT5 only what this claim needs (shake.py, this repo's). -/
import Derived.Test.YtgjlkplieoajlaaZNT4
import Derived.Laws.MakeOwn
set_option linter.unusedVariables false
set_option linter.unusedSimpArgs false
namespace Go.Proofs.Ytgjlkplieoajlaa
open Go.RowKit
open Go.Proofs.YtgjlkplieoajlaaW.PrintWords (Kd Drawn0 Kept rd rdOf)
open Go.Proofs.Ytgjlkplieoajlaa.PTreeWhole
set_option maxRecDepth 100000

theorem wpList_make_rows {P : Program} (w : World) {ops : Array Oper} {rest : List Oper} {o : Oper} {a : Act} {Q : Exit → Act → World → Prop}
    (hg : o.guard = none) (l c : Operand) (t : TypeId) (hop : o.op = Op.makeSlice t l c)
    (e : TypeId) (z : Value) (sz bytes : Nat) (ht : P.underlying t = some (.slice e)) (hinfo : (P.info? e).map (fun i => (i.zero, i.size, i.bytes)) = some (some z, sz, bytes))
    (n : Nat) (hl : a.eval l = .int .i64 (n : Int)) (hc : a.eval c = .int .i64 (n : Int)) (hbytes : bytes * n ≤ 281474976710656) (h63 : n ≤ 9223372036854775807)
    (hK : wpList P ops Q rest (a.put o.dst (.slice (some ⟨w.heap.size, 0, none⟩) n n)) (w.alloc (.cells (madeCells z.cells (n * sz)) e))) :
    wpList P ops Q (o :: rest) a w := by
  obtain ⟨i, hi, hzz⟩ := Option.map_eq_some_iff.1 hinfo
  simp only [Prod.mk.injEq] at hzz
  obtain ⟨hz, hs, hb⟩ := hzz
  have hb3 : (i.bytes : Int) * (n : Int) ≤ 281474976710656 := by
    have h3 : ((bytes * n : Nat) : Int) ≤ 281474976710656 := by omega
    rw [Int.natCast_mul] at h3
    rw [hb]
    exact h3
  refine wpList_plain hg fun K hK' => ?_
  have hrun := run_make (P := P) w t e i z ht hi hz .i64 .i64 (n : Int) (n : Int) (by omega) (by omega) hb3 (by omega)
  simp only [Int.toNat_natCast, hs] at hrun
  unfold Oper.wp
  simp [execOp, hop, hl, hc, hrun, Result.andThen]
  exact hK' _ _ hK
theorem made_at {z : Array Value} {n sz i j : Nat} {u : Value} (hs : z.size = sz) (hi : i < n) (hu : z.toList[j]? = some u) : (madeCells z (n * sz))[i * sz + j]? = some u := by
  have hj : j < sz := by
    have := (List.getElem?_eq_some_iff.1 hu).1
    rw [Array.length_toList] at this
    omega
  have hlt : i * sz + j < n * sz := by
    have : (i + 1) * sz ≤ n * sz := Nat.mul_le_mul_right sz hi
    rw [Nat.add_mul] at this
    omega
  have hm : (i * sz + j) % sz = j := by rw [Nat.mul_comm, Nat.mul_add_mod]; exact Nat.mod_eq_of_lt hj
  have hu' : z[j]? = some u := by simpa using hu
  simp only [madeCells, Array.getElem?_map, Array.getElem?_range, hlt, if_true, Option.map_some, Option.some.injEq, hs, hm]
  rw [getElem!_def, hu']
theorem RW.made {w : World} {ty : TypeId} {sz n : Nat} {z : Array Value} (hs : z.size = sz) (hn : n ≤ maxLen) : RW (w.alloc (.cells (madeCells z (n * sz)) ty)) ty sz w.heap.size n n (List.replicate n z.toList) := by
  refine ⟨⟨_, heap_alloc_new w _, by rw [size_madeCells], fun i r hr => ?_⟩, Nat.le_refl _, hn, by simp⟩
  obtain ⟨hi, e⟩ := List.getElem?_eq_some_iff.1 hr
  rw [List.getElem_replicate] at e
  subst e
  have hi' : i < n := by simpa using hi
  exact ⟨by rw [Array.length_toList, hs], fun j u hu => made_at hs hi' hu⟩

abbrev zNk : Nk := noNk 0
abbrev oneNk : Nk := noNk 1
def midNk (k n : Nat) : List Nk := (List.range n).map fun i => if i < k then oneNk else zNk
theorem midNk_at {k n : Nat} (h : k < n) : (midNk k n)[k]? = some zNk := by
  unfold midNk
  rw [List.getElem?_map, List.getElem?_range h]
  simp
theorem midNk_set {k n : Nat} (h : k < n) : (midNk k n).set k oneNk = midNk (k + 1) n := by
  apply List.ext_getElem?
  intro i
  rw [List.getElem?_set]
  unfold midNk
  simp only [List.length_map, List.length_range, List.getElem?_map]
  by_cases e : k = i
  · subst e
    rw [List.getElem?_range h]
    simp [h]
  · rw [if_neg e]
    rcases Nat.lt_or_ge i n with hi | hi
    · rw [List.getElem?_range hi]
      simp only [Option.map_some, Option.some.injEq]
      by_cases hk : i < k
      · rw [if_pos hk, if_pos (by omega)]
      · rw [if_neg hk, if_neg (by omega)]
    · rw [List.getElem?_eq_none (by simpa using hi)]
      rfl
theorem midNk_end (n : Nat) : midNk n n = List.replicate n oneNk := by
  unfold midNk
  apply List.ext_getElem?
  intro i
  rw [List.getElem?_map, List.getElem?_replicate]
  rcases Nat.lt_or_ge i n with hi | hi
  · rw [List.getElem?_range hi]; simp [hi]
  · rw [List.getElem?_eq_none (by simpa using hi), if_neg (by omega)]; rfl
theorem midNk_start (n : Nat) : midNk 0 n = List.replicate n zNk := by
  unfold midNk
  apply List.ext_getElem?
  intro i
  rw [List.getElem?_map, List.getElem?_replicate]
  rcases Nat.lt_or_ge i n with hi | hi
  · rw [List.getElem?_range hi]; simp [hi]
  · rw [List.getElem?_eq_none (by simpa using hi), if_neg (by omega)]; rfl
abbrev zAgg : Value := .agg #[.int .i64 0, .bool false, .int .i64 0]
theorem infoNk : (Try.prog.info? 65).map (fun i => (i.zero, i.size, i.bytes)) = some (some zAgg, 3, 24) := by kernel_rfl
theorem NM.one {kind : Int} {n : Nat} (k0 : 1 ≤ kind) (k3 : kind ≤ 3) (n0 : 1 ≤ n) (n1 : n ≤ 4096) : NM kind n (List.replicate n oneNk) := by
  have hr : ∀ (i : Nat) (x : Nk), (List.replicate n oneNk)[i]? = some x → x = oneNk := by
    intro i x hx
    obtain ⟨h, e⟩ := List.getElem?_eq_some_iff.1 hx
    rw [List.getElem_replicate] at e
    exact e.symm
  refine ⟨k0, k3, n0, n1, by simp, ?_, ?_⟩
  · intro i x hx
    obtain rfl := hr i x hx
    exact ⟨by decide, by decide⟩
  · intro i x hx hf
    obtain rfl := hr i x hx
    simp at hf

theorem nnews_ok (kind : Int) (n : Nat) (w : World) (k0 : 1 ≤ kind) (k3 : kind ≤ 3) (n0 : 1 ≤ n) (n1 : n ≤ 4096) :
    Calls Try.prog 17 #[.int .i64 kind, .int .i64 (n : Int)] w fun e w' => ∃ t g cap, e = .returned (.tuple #[.pointer (some ⟨t, 0, none⟩), .nilIface]) ∧ NT w' t g n cap kind (List.replicate n oneNk) ∧ w.heap.size ≤ t ∧ w.heap.size ≤ g ∧ Below w.heap.size w w' := by
  have t1 : decide (kind < 1) = false := decide_eq_false (by omega)
  have t2 : decide (3 < kind) = false := decide_eq_false (by omega)
  have t3 : decide ((n : Int) < 1) = false := decide_eq_false (by omega)
  have t4 : decide ((4096 : Int) < n) = false := decide_eq_false (by omega)
  have t3' : decide (n < 1) = false := decide_eq_false (by omega)
  have t4' : decide (4096 < n) = false := decide_eq_false (by omega)
  have HR : Hid (RW (w.alloc (.cells (madeCells zAgg.cells (n * 3)) 65)) 65 3 w.heap.size n n (List.replicate n zNk.cs)) := Lib.hid (RW.made (z := zAgg.cells) rfl (by unfold maxLen; omega))
  have HB := Lib.hid (below_alloc (Below.refl w.heap.size w) (Nat.le_refl _) (.cells (madeCells zAgg.cells (n * 3)) 65))
  obtain ⟨w1, hw1⟩ : ∃ W, W = w.alloc (.cells (madeCells zAgg.cells (n * 3)) 65) := ⟨_, rfl⟩
  obtain ⟨g, hg⟩ : ∃ g, g = w.heap.size := ⟨_, rfl⟩
  have HG : Hid (w.heap.size ≤ g) := Lib.hid (by omega)
  have HGT : Hid (g < w1.heap.size) := by rw [hw1, hg]; exact Lib.hid (by simp)
  rw [← hw1] at HR HB
  have HWT : Hid (w.heap.size ≤ w1.heap.size) := Lib.hid HB.out.size
  have HW1 := Lib.hid hw1
  have Hg := Lib.hid hg
  have HT : Hid (NT (w1.alloc (.cells #[.int .i64 kind, .slice (some ⟨g, 0, none⟩) n n] 63)) w1.heap.size g n n kind (midNk 0 n)) := by
    rw [midNk_start, hg]
    refine Lib.hid ⟨heap_alloc_new w1 _, ?_⟩
    · have := HR.out.below ((Below.refl _ w1).alloc (Nat.le_refl _) (.cells #[.int .i64 kind, .slice (some ⟨w.heap.size, 0, none⟩) n n] 63))
      rwa [← List.map_replicate] at this
  have HB2 := Lib.hid (below_alloc HB.out (Nat.le_refl _) (.cells #[.int .i64 kind, .slice (some ⟨g, 0, none⟩) n n] 63))
  clear hw1 hg
  go_enter Try.func17, Try.ntmps17
  go_wp2_with (first
    | (refine wpList_make_rows _ rfl (.tmp 24) (.tmp 24) _ rfl 65 zAgg 3 24 Try.underlying61 infoNk n rfl rfl (by omega) (by omega) ?_; rw [← HW1.out, ← Hg.out])
    | fail)
  generalize w1.alloc (.cells #[.int .i64 kind, .slice (some ⟨g, 0, none⟩) n n] 63) = W2 at HB2 HT ⊢
  generalize w1.heap.size = t at HGT HWT HT ⊢
  clear HR HB
  go_loopw [33] (fun i wr => ∃ k : Nat, k ≤ n ∧ i = .int .i64 k ∧ Hid (NT wr t g n n kind (midNk k n)) ∧ Hid (Below w.heap.size w wr)) (fun i _ => n - (intOf i).toNat)
  case atStart => exact ⟨0, Nat.zero_le _, rfl, HT, HB2⟩
  case round =>
    obtain ⟨k, hk, rfl, hT, hB⟩ := hrel
    clear HT HB2
    by_cases hlt : k < n
    · have c1 := hT.out.c1
      have e0 : wr.cell? ⟨g, k * 3, none⟩ = some (.int .i64 0) := hT.out.e0 (midNk_at hlt)
      have f0 := hT.out.fz (k * 3)
      have HS : Hid (NT (wr.setCell ⟨g, k * 3, none⟩ (.int .i64 1)) t g n n kind (midNk (k + 1) n)) := by
        rw [← midNk_set hlt]
        exact Lib.hid (hT.out.put (midNk_at hlt) oneNk ((Chg.refl _ wr).setCell ⟨g, k * 3, none⟩ _ rfl) (hT.out.row.set (hT.out.r (midNk_at hlt)) 0 (by omega) (.int .i64 1)))
      have HBS := Lib.hid (hB.out.setCell (p := ⟨g, k * 3, none⟩) HG.out (.int .i64 1))
      clear hT hB
      go_wp2
      go_roundw
      case rel => exact ⟨k + 1, by omega, by go_num, HS, HBS⟩
      case measure => simp [intOf]; omega
    · obtain rfl : k = n := by omega
      go_wp2
      go_ret2
      rw [midNk_end] at hT
      exact ⟨t, g, k, rfl, hT.out, HWT.out, HG.out, hB.out⟩

end Go.Proofs.Ytgjlkplieoajlaa
