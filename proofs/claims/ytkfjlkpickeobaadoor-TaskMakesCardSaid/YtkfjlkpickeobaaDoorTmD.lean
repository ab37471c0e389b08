/- Tasks: Twin, Same, New, num; boxes; the reference Push. -/
import Derived.Test.YtkfjlkpickeobaaDoorTmC
import Derived.Test.YtkfjlkpickeobaaDoorRd
import Derived.Test.YtkfjlkpickeobaaDoorPTaskRunsx3
import Derived.Test.YtkfjlkpickeobaaDoorPTaskRunsx5
import Derived.Test.YtkfjlkpickeobaaDoorPTaskRunsx12
import Derived.Test.YtkfjlkpickeobaaDoorPTaskRunsx13
import Derived.Test.YtkfjlkpickeobaaDoorTmB
set_option linter.unusedVariables false
set_option linter.unusedSimpArgs false
namespace Go.Proofs.YtkfjlkpickeobaaDoor
open Go.RowKit
open Go.Proofs.YtkfjlkpickeobaaDoorW.PrintWords (Kd Drawn0 Kept rd rdOf ReadsRow)
open Go.Proofs.YtkfjlkpickeobaaDoor.PTaskRuns
set_option maxRecDepth 100000

theorem TR.of_cells {w : World} {b o n c : Nat} {js : List Jb} (hl : js.length = n) (hc : n ≤ c) (hm : n ≤ 9223372036854775807) (h : ∀ i x, js[i]? = some x → JAt w b o i x) : TR w (.slice (some ⟨b, o, none⟩) n c) js := by
  subst hl
  refine ⟨some ⟨b, o, none⟩, c, rfl, hc, ⟨rfl, hm, fun _ => ⟨_, rfl, fun j x hx => ?_⟩⟩⟩
  obtain ⟨c0, c1, c2, c3⟩ := h j x hx
  refine ⟨cJ x, rfl, k28_mk w x, fun i u hu => ?_⟩
  show w.cell? ((⟨b, o, none⟩ : Addr).add (j * 4 + i)) = some u
  rw [Go.WideShapes.add_plain]
  match i, hu with
  | 0, hu => obtain rfl := Option.some.inj hu; exact c0
  | 1, hu => obtain rfl := Option.some.inj hu; exact c1
  | 2, hu => obtain rfl := Option.some.inj hu; exact c2
  | 3, hu => obtain rfl := Option.some.inj hu; exact c3
theorem jobs_of {w : World} {b o : Nat} : ∀ n : Nat, (∀ i, i < n → ∃ x : Jb, JAt w b o i x) → ∃ js : List Jb, js.length = n ∧ ∀ i x, js[i]? = some x → JAt w b o i x
  | 0, _ => ⟨[], rfl, fun i x h => by simp at h⟩
  | n + 1, h => by
    obtain ⟨js, h1, h2⟩ := jobs_of n (fun i hi => h i (by omega))
    obtain ⟨x, hx0⟩ := h n (by omega)
    refine ⟨js ++ [x], by simp [h1], ?_⟩
    intro i y hy
    rcases Nat.lt_or_ge i n with hi | hi
    · rw [List.getElem?_append_left (by omega)] at hy
      exact h2 i y hy
    · rw [List.getElem?_append_right (by omega)] at hy
      have hi2 : i - js.length = 0 := by
        have := (List.getElem?_eq_some_iff.1 hy).1
        simp at this
        omega
      rw [hi2] at hy
      obtain rfl : x = y := by simpa using hy
      obtain rfl : i = n := by omega
      exact hx0
/-- A job as an argument. -/
theorem job_of_rd {w : World} {cs : List Value} (h : Rd28 w cs) : ∃ x : Jb, cs = cJ x := by
  obtain ⟨c0, c1, c2, c3, rfl, ⟨z0, rfl, _⟩, ⟨z1, rfl, _⟩, ⟨z2, rfl, _⟩, ⟨z3, rfl, _⟩⟩ := h
  exact ⟨⟨z0, z1, z2, z3⟩, rfl⟩
theorem jobs_of_rd {w : World} {cs : List Value} (h : Rd22 w cs) : ∃ (v : Value) (js : List Jb), cs = [v] ∧ TR w v js ∧ js.length * 32 ≤ 140737488351232 := by
  obtain ⟨a, n, c, rfl, hnc, hcm, hb, h0 | ⟨b, o, rfl, hel⟩⟩ := h
  · subst h0
    exact ⟨_, [], rfl, ⟨a, c, rfl, Nat.zero_le _, ⟨rfl, by simp, fun h => absurd h (Nat.lt_irrefl 0)⟩⟩, by simp⟩
  · obtain ⟨js, h1, h2⟩ := jobs_of (w := w) (b := b) (o := o) n (fun i hi => by
      obtain ⟨ce, hl, hc, hr⟩ := hel i hi
      obtain ⟨x, rfl⟩ := job_of_rd hr
      exact ⟨x, by simpa using hc 0 (by decide), by simpa using hc 1 (by decide), by simpa using hc 2 (by decide), by simpa using hc 3 (by decide)⟩)
    unfold maxLen at hcm
    exact ⟨_, js, rfl, TR.of_cells h1 hnc (by omega) h2, by rw [h1]; exact hb⟩
/-- A task as an argument. -/
theorem task_of_rd {w : World} {cs : List Value} (h : Rd26 w cs) : ∃ (T : Tk) (v : Value), cs = (T.cs v).1.toList ∧ TR w v T.js ∧ T.js.length * 32 ≤ 140737488351232 := by
  obtain ⟨c0, c1, c2, rfl, ⟨p, rfl, _⟩, hj, ⟨d0, d1, d2, d3, d4, d5, rfl, ⟨z0, rfl, _⟩, ⟨z1, rfl, _⟩, ⟨z2, rfl, _⟩, ⟨z3, rfl, _⟩, ⟨z4, rfl, _⟩, ⟨z5, rfl, _⟩⟩⟩ := h
  obtain ⟨v, js, rfl, h1, h2⟩ := jobs_of_rd hj
  exact ⟨⟨p, js, z0, z1, z2, z3, z4, z5⟩, v, rfl, h1, h2⟩

theorem twin_c (T : Tk) (v : Value) (w : World) (h : TR w v T.js) (hl : T.js.length * 32 ≤ 140737488351232) :
    Calls Tryd.prog 10 #[T.v v] w fun e w' => ∃ v', e = .returned (T.v v') ∧ kJ.R 28 w' w.heap.size (fun _ => True) v' T.js ∧ Below w.heap.size w w' := by
  obtain ⟨A, c, rfl, h1, h2⟩ := h
  refine (titheref12_Twin.calls T.p A c T.js T.g T.o T.l T.d T.c T.t T.p T.js T.g T.o T.l T.d T.c T.t w h2 h1 ?_).mono (fun e w' h => h)
  unfold titheref12_Twin.f
  rw [if_pos (by simp; omega)]
  rfl

open Classical in
noncomputable def sameB (a b : Tk) : Bool := decide (a = b)
theorem sameB_self (a : Tk) : sameB a a = true := by simp [sameB]
theorem jb_eq (x y : Jb) : (!(x.f0 == y.f0) || (!(x.f1 == y.f1) || (!(x.f2 == y.f2) || (!(x.f3 == y.f3))))) = true ↔ x ≠ y := by
  cases x; cases y
  simp
  omega
theorem rsame_l0 (a b : Tk) (hlen : a.js.length = b.js.length) (hl : a.js.length ≤ 9223372036854775800) : ∀ (m i k : Nat), i + m = a.js.length → m < k →
    ∃ r, titheref12_Same.l0 k (i : Int) a.p a.js a.g a.o a.l a.d a.c a.t b.p b.js b.g b.o b.l b.d b.c b.t = some r ∧ (r = true ↔ a.js.drop i = b.js.drop i) := by
  intro m
  induction m with
  | zero =>
    intro i k hi hk
    obtain ⟨k, rfl⟩ : ∃ c, k = c + 1 := ⟨k - 1, by omega⟩
    refine ⟨true, ?_, ?_⟩
    · simp only [titheref12_Same.l0]
      rw [if_neg (by omega)]
    · rw [List.drop_of_length_le (by omega), List.drop_of_length_le (by omega)]; simp
  | succ m ih =>
    intro i k hi hk
    obtain ⟨k, rfl⟩ : ∃ c, k = c + 1 := ⟨k - 1, by omega⟩
    have ha : i < a.js.length := by omega
    have hb : i < b.js.length := by omega
    simp only [titheref12_Same.l0]
    rw [if_pos (by omega), if_pos (by omega), if_pos (by omega), wrap_i (by omega), rdJ ha, rdJ hb]
    rw [show a.js.drop i = a.js[i] :: a.js.drop (i + 1) from List.drop_eq_getElem_cons ha, show b.js.drop i = b.js[i] :: b.js.drop (i + 1) from List.drop_eq_getElem_cons hb]
    by_cases he : a.js[i] = b.js[i]
    · rw [if_neg (by rw [jb_eq]; exact fun h => h he)]
      obtain ⟨r, h1, h2⟩ := ih (i + 1) k (by omega) (by omega)
      exact ⟨r, h1, h2.trans (by rw [he]; exact ⟨fun h => by rw [h], fun h => (List.cons.inj h).2⟩)⟩
    · rw [if_pos (by rw [jb_eq]; exact he)]
      exact ⟨false, rfl, ⟨(fun h => by cases h), fun h => absurd (List.cons.inj h).1 he⟩⟩
theorem rsame_f (a b : Tk) (hl : a.js.length ≤ 9223372036854775800) (k : Nat) (hk : a.js.length < k) :
    titheref12_Same.f (k + 1) a.p a.js a.g a.o a.l a.d a.c a.t b.p b.js b.g b.o b.l b.d b.c b.t = some (sameB a b) := by
  have hext : a = b ↔ a.p = b.p ∧ (a.g = b.g ∧ a.o = b.o ∧ a.l = b.l ∧ a.d = b.d ∧ a.c = b.c ∧ a.t = b.t) ∧ a.js = b.js := by
    constructor
    · rintro rfl; exact ⟨rfl, ⟨rfl, rfl, rfl, rfl, rfl, rfl⟩, rfl⟩
    · rintro ⟨h1, ⟨h3, h4, h5, h6, h7, h8⟩, h2⟩; cases a; cases b; dsimp only at *; subst_vars; rfl
  unfold titheref12_Same.f
  have no : a ≠ b → titheref12_Same.j0 (k + 1) true a.p a.js a.g a.o a.l a.d a.c a.t b.p b.js b.g b.o b.l b.d b.c b.t = some (sameB a b) := fun h => by
    simp only [titheref12_Same.j0]; simp [sameB, h]
  by_cases h1 : a.p = b.p
  · rw [if_pos h1]
    by_cases h2 : a.g = b.g ∧ a.o = b.o ∧ a.l = b.l ∧ a.d = b.d ∧ a.c = b.c ∧ a.t = b.t
    · rw [if_neg (by obtain ⟨e1, e2, e3, e4, e5, e6⟩ := h2; simp [e1, e2, e3, e4, e5, e6])]
      simp only [titheref12_Same.j0]
      by_cases h3 : a.js.length = b.js.length
      · rw [if_neg (by simp [h3])]
        obtain ⟨r, e1, e2⟩ := rsame_l0 a b h3 hl a.js.length 0 k (by omega) hk
        have e1' : titheref12_Same.l0 k 0 a.p a.js a.g a.o a.l a.d a.c a.t b.p b.js b.g b.o b.l b.d b.c b.t = some r := e1
        rw [e1']
        congr 1
        rw [Bool.eq_iff_iff, e2]
        simp [sameB, hext, h1, h2]
      · rw [if_pos (by simp; omega)]
        have : a ≠ b := fun h => h3 (by rw [h])
        simp [sameB, this]
    · rw [if_pos (by
        simp only [Bool.or_eq_true, Bool.not_eq_true', beq_eq_false_iff_ne]
        by_cases e1 : a.g = b.g <;> by_cases e2 : a.o = b.o <;> by_cases e3 : a.l = b.l <;> by_cases e4 : a.d = b.d <;> by_cases e5 : a.c = b.c <;> by_cases e6 : a.t = b.t <;> simp_all)]
      exact no (fun h => h2 (hext.1 h).2.1)
  · rw [if_neg h1]
    exact no (fun h => h1 (hext.1 h).1)
theorem rsame_c (a b : Tk) (u v : Value) (w : World) (ha : TR w u a.js) (hb : TR w v b.js) (hl : a.js.length ≤ 9223372036854775800) :
    Calls Tryd.prog 29 #[a.v u, b.v v] w fun e w' => e = .returned (.bool (sameB a b)) ∧ Below w.heap.size w w' := by
  obtain ⟨A, c, rfl, h1, h2⟩ := ha
  obtain ⟨A', c', rfl, h1', h2'⟩ := hb
  exact titheref12_Same.calls (a.js.length + 1 + 1) a.p A c a.js a.g a.o a.l a.d a.c a.t b.p A' c' b.js b.g b.o b.l b.d b.c b.t _ w h2 h1 h2' h1' (rsame_f a b hl (a.js.length + 1) (by omega))
theorem same_c (a b : Tk) (u v : Value) (w : World) (ha : TR w u a.js) (hb : TR w v b.js) (hl : a.js.length ≤ 9223372036854775800) :
    Calls Tryd.prog 13 #[a.v u, b.v v] w fun e w' => e = .returned (.bool (sameB a b)) ∧ Below w.heap.size w w' := by
  obtain ⟨A, c, rfl, h1, h2⟩ := ha
  obtain ⟨A', c', rfl, h1', h2'⟩ := hb
  refine tithelaw12_same.calls (a.js.length + 1 + 1) a.p A c a.js a.g a.o a.l a.d a.c a.t b.p A' c' b.js b.g b.o b.l b.d b.c b.t _ w h2 h1 h2' h1' ?_
  unfold tithelaw12_same.f
  rw [rsame_f a b hl (a.js.length + 1) (by omega)]
  rfl
/-- Two tasks that are the same. -/
theorem same_t (a : Tk) (u v : Value) (w : World) (ha : TR w u a.js) (hb : TR w v a.js) (hl : a.js.length ≤ 9223372036854775800) :
    Calls Tryd.prog 13 #[a.v u, a.v v] w fun e w' => e = .returned (.bool true) ∧ Below w.heap.size w w' :=
  (same_c a a u v w ha hb hl).mono fun e w' h => ⟨by rw [h.1, sameB_self], h.2⟩

theorem new_yes (p : Int) (w : World) (h : 0 ≤ p ∧ p ≤ 31) : Calls Tryd.prog 21 #[.int .i64 p] w fun e w' => ∃ v, e = .returned (.tuple #[Tk.v ⟨p, [], 0, 0, 0, 0, 0, 0⟩ v, .nilIface]) ∧ kJ.R 28 w' w.heap.size (fun _ => True) v [] ∧ Below w.heap.size w w' := by
  refine (task_New.calls p p [] 0 0 0 0 0 0 none w ?_).mono (fun e w' h => h)
  unfold task_New.f
  rw [is_f]
  simp [h.1, h.2]
theorem new_no (p : Int) (w : World) (h : ¬ (0 ≤ p ∧ p ≤ 31)) : Calls Tryd.prog 21 #[.int .i64 p] w fun e w' => ∃ v, e = .returned (.tuple #[zT.v v, .iface 61 (.int .i64 2)]) ∧ kJ.R 28 w' w.heap.size (fun _ => True) v [] ∧ Below w.heap.size w w' := by
  refine (task_New.calls p 0 [] 0 0 0 0 0 0 (some 2) w ?_).mono (fun e w' h => h)
  unfold task_New.f
  rw [is_f]
  simp [h]

theorem num_nil (w : World) : Calls Tryd.prog 14 #[.nilIface] w fun e w' => e = .returned (.int .i64 0) ∧ w = w' := by
  go_enter Tryd.func14, Tryd.ntmps14
  go_wp2_with fail
  go_ret
  exact ⟨rfl, rfl⟩
theorem assertErrno (n : Int) (w : World) : Sem.run Tryd.prog (Instr.typeAssert (.iface 61 (.int .i64 n)) 31 61 true) w = .ok (.tuple #[.int .i64 n, .bool true]) w := by
  simp [Instr.typeAssert, run_underlying Tryd.underlying61]
attribute [local go_sem high] assertErrno
theorem num_errno (n : Int) (w : World) : Calls Tryd.prog 14 #[.iface 61 (.int .i64 n)] w fun e w' => e = .returned (.int .i64 n) ∧ w = w' := by
  go_enter Tryd.func14, Tryd.ntmps14
  go_wp2_with fail
  go_ret
  exact ⟨rfl, rfl⟩
theorem num_c (n : Int) (w : World) : Calls Tryd.prog 14 #[errV n] w fun e w' => e = .returned (.int .i64 n) ∧ w = w' := by
  by_cases h : n = 0
  · subst h; exact num_nil w
  · rw [errV_n h]; exact num_errno n w

theorem rvalid_c (T : Tk) (v : Value) (w : World) (h : TR w v T.js) (hl : T.js.length ≤ 9223372036854775800) :
    Calls Tryd.prog 25 #[T.v v] w fun e w' => e = .returned (.int .i64 (if T.okB = true then 0 else 270)) ∧ Below w.heap.size w w' := by
  obtain ⟨A, c, rfl, h1, h2⟩ := h
  exact titheref12_Valid.calls (T.js.length + 1 + 2) T.p A c T.js T.g T.o T.l T.d T.c T.t _ w h2 h1 (rvalid_f T hl (T.js.length + 1) (by omega))
theorem rready_c (T : Tk) (v : Value) (r : Bool) (w : World) (h : TR w v T.js) (hr : decide (0 < T.js.length) = r) : Calls Tryd.prog 19 #[T.v v] w fun e w' => e = .returned (.bool r) ∧ Below w.heap.size w w' := by
  obtain ⟨A, c, rfl, h1, h2⟩ := h
  refine (titheref12_Ready.calls T.p A c T.js T.g T.o T.l T.d T.c T.t r w h2 h1 ?_).mono (fun e w' h => h)
  unfold titheref12_Ready.f
  rw [← hr]
  simp

end Go.Proofs.YtkfjlkpickeobaaDoor

set_option linter.unusedVariables false
set_option linter.unusedSimpArgs false
namespace Go.Proofs.YtkfjlkpickeobaaDoor
open Go.RowKit
open Go.Proofs.YtkfjlkpickeobaaDoorW.PrintWords (Kd Drawn0 Kept rd rdOf ReadsRow)
open Go.Proofs.YtkfjlkpickeobaaDoor.PTaskRuns
set_option maxRecDepth 100000

/-- A task lies in a block of its own. -/
structure TX (W : World) (b : Nat) (T : Tk) (v : Value) : Prop where
  blk : W.heap[b]? = some (.cells (T.cs v).1 26 (0, 0))
  tr : TR W v T.js
/-- A job does. -/
def JX (W : World) (b : Nat) (x : Jb) : Prop := W.heap[b]? = some (.cells (jcs x).1 28 (0, 0))
section
variable {W W' : World} {b : Nat} {T : Tk} {v : Value} {x : Jb}
theorem TX.lt (h : TX W b T v) : b < W.heap.size := (Array.getElem?_eq_some_iff.1 h.blk).1
theorem TX.below (h : TX W b T v) (hb : Below W.heap.size W W') : TX W' b T v := ⟨(hb.block b h.lt).trans h.blk, h.tr.below hb⟩
theorem TX.alloc (h : TX W b T v) (o : Obj) : TX (W.alloc o) b T v := h.below ((Below.refl _ W).alloc (Nat.le_refl _) o)
theorem TX.new (h : TR W v T.js) : TX (W.alloc (.cells (T.cs v).1 26)) W.heap.size T v := ⟨alloc_new W _, h.below ((Below.refl _ W).alloc (Nat.le_refl _) _)⟩
theorem TX.t8 (h : TX W b T v) : W.cell? ⟨b, 0, none⟩ = some (.int .i64 T.p) ∧ W.cell? ⟨b, 1, none⟩ = some v ∧ W.cell? ⟨b, 2, none⟩ = some (.int .i64 T.g) ∧ W.cell? ⟨b, 3, none⟩ = some (.int .i64 T.o) ∧ W.cell? ⟨b, 4, none⟩ = some (.int .i64 T.l) ∧ W.cell? ⟨b, 5, none⟩ = some (.int .i64 T.d) ∧ W.cell? ⟨b, 6, none⟩ = some (.int .i64 T.c) ∧ W.cell? ⟨b, 7, none⟩ = some (.int .i64 T.t) := by
  have := h.blk
  refine ⟨?_, ?_, ?_, ?_, ?_, ?_, ?_, ?_⟩ <;> simp [World.cell?, this]
theorem JX.lt (h : JX W b x) : b < W.heap.size := (Array.getElem?_eq_some_iff.1 h).1
theorem JX.below (h : JX W b x) (hb : Below W.heap.size W W') : JX W' b x := (hb.block b h.lt).trans h
theorem JX.alloc (h : JX W b x) (o : Obj) : JX (W.alloc o) b x := h.below ((Below.refl _ W).alloc (Nat.le_refl _) o)
theorem JX.j4 (h : JX W b x) : W.cell? ⟨b, 0, none⟩ = some (.int .i64 x.f0) ∧ W.cell? ⟨b, 1, none⟩ = some (.int .i64 x.f1) ∧ W.cell? ⟨b, 2, none⟩ = some (.int .i64 x.f2) ∧ W.cell? ⟨b, 3, none⟩ = some (.int .i64 x.f3) := by
  unfold JX at h
  refine ⟨?_, ?_, ?_, ?_⟩ <;> simp [World.cell?, h]
theorem JX.new (W : World) (x : Jb) : JX (W.alloc (.cells (jcs x).1 28)) W.heap.size x := alloc_new W _
end

end Go.Proofs.YtkfjlkpickeobaaDoor

set_option linter.unusedVariables false
set_option linter.unusedSimpArgs false
namespace Go.Proofs.YtkfjlkpickeobaaDoor
open Go.RowKit
open Go.Proofs.YtkfjlkpickeobaaDoorW.PrintWords (Kd Drawn0 Kept rd rdOf)
open Go.Proofs.YtkfjlkpickeobaaDoor.PTaskRuns
set_option maxRecDepth 100000

theorem rwithin_c (a b : Int) (r : Bool) (h : decide (0 ≤ a ∧ a ≤ b) = r) (w : World) : Calls Tryd.prog 41 #[.int .i64 a, .int .i64 b] w fun e w' => e = .returned (.bool r) ∧ Below w.heap.size w w' :=
  (titheref12_within.calls a b r w (by rw [within_f, h])).mono fun e w' h => ⟨h.1, by obtain ⟨n, hn⟩ := h.2; rw [hn]; exact below_drewN' (Below.refl _ w) n⟩
theorem rjob_c (x : Jb) (r : Bool) (h : jobB x = r) (w : World) : Calls Tryd.prog 42 #[.agg #[.int .i64 x.f0, .int .i64 x.f1, .int .i64 x.f2, .int .i64 x.f3]] w fun e w' => e = .returned (.bool r) ∧ Below w.heap.size w w' :=
  titheref12_job.calls x.f0 x.f1 x.f2 x.f3 r w (by rw [job_f, h])
theorem rvalid_yes (T : Tk) (v : Value) (w : World) (h : TR w v T.js) (hk : T.okB = true) : Calls Tryd.prog 25 #[T.v v] w fun e w' => e = .returned (.int .i64 0) ∧ Below w.heap.size w w' :=
  (rvalid_c T v w h (by have := Tk.ok_len hk; omega)).mono fun e w' h => ⟨by rw [h.1, hk]; rfl, h.2⟩
theorem rvalid_no (T : Tk) (v : Value) (w : World) (h : TR w v T.js) (hl : T.js.length ≤ 9223372036854775800) (hk : T.okB = false) : Calls Tryd.prog 25 #[T.v v] w fun e w' => e = .returned (.int .i64 270) ∧ Below w.heap.size w w' :=
  (rvalid_c T v w h hl).mono fun e w' h => ⟨by rw [h.1, hk]; rfl, h.2⟩
theorem rpush_after {bw : Nat} {w W w' : World} {L : List (Array Value × TypeId)} {v : Value} {js : List Jb} (h : BX bw w W L) (hR : kJ.R 28 w' (bw + L.length) (fun _ => True) v js) (hB : Below (bw + L.length) W w') : Hid (BX bw w w' L) ∧ Hid (kJ.R 28 w' (bw + L.length) (fun _ => True) v js) :=
  ⟨Lib.hid (h.chg (S := fun k => bw + L.length ≤ k) ⟨hB.os, hB.tape, hB.output, hB.size, fun k _ hn => hB.block k (by omega)⟩ (fun _ s => s)), Lib.hid hR⟩
set_option maxHeartbeats 2000000 in
theorem rpush_state (T : Tk) (v : Value) (x : Jb) (now : Int) (w : World) (h : TR w v T.js) (hl : T.js.length ≤ 9223372036854775800) (hk : T.okB = false) :
    Calls Tryd.prog 12 #[T.v v, jv x, .int .i64 now] w fun e w' => e = .returned (.tuple #[zT.v nilS, .int .i64 270]) ∧ Below w.heap.size w w' := by
  obtain ⟨W0, hW0⟩ : ∃ y, y = ((w.alloc (.cells #[.int .i64 T.p, v, .int .i64 T.g, .int .i64 T.o, .int .i64 T.l, .int .i64 T.d, .int .i64 T.c, .int .i64 T.t] 26)).alloc (.cells #[.int .i64 x.f0, .int .i64 x.f1, .int .i64 now, .int .i64 x.f3] 28)).alloc (.cells #[.int .i64 0, .slice none 0 0, .int .i64 0, .int .i64 0, .int .i64 0, .int .i64 0, .int .i64 0, .int .i64 0] 26) := ⟨_, rfl⟩
  have hx : BX w.heap.size w W0 [T.cs v, jcs (atJ x now), zT.cs nilS] := by rw [hW0]; exact BX.new w [T.cs v, jcs (atJ x now), zT.cs nilS]
  have HX := Lib.hid hx
  have HW0 := Lib.hid hW0
  have HR := Lib.hid h
  have HK := Lib.hid hk
  clear h hx hW0 hk
  go_enter Tryd.func12, Tryd.ntmps12
  go_wp2_with fail
  rw [← HW0.out]
  generalize hbw : w.heap.size = bw at *
  refine (rvalid_no T v W0 (HR.out.below (by rw [hbw]; exact HX.out.be)) hl HK.out).mono ?_
  rintro e w1 ⟨rfl, hb⟩
  have HX1 := Lib.hid (HX.out.call hb)
  clear hb HX
  obtain ⟨r0, r1, r2, r3, r4, r5, r6, r7⟩ := HX1.out.t8 (T := zT) (b := bw + 2) 2 rfl rfl
  obtain ⟨f0, f1, f2, f3, f4, f5, f6, f7⟩ := HX1.out.f8 (b := bw + 2) 2 rfl rfl
  go_wp2
  refine bodyPost_ret (v := .tuple #[zT.v nilS, .int .i64 270]) (by simp [results, Tryd.results12, go_sem, r0, r1, r2, r3, r4, r5, r6, r7]) rfl ⟨rfl, ?_⟩
  rw [hbw]
  exact below_set8 HX1.out.be (by omega) _ _ _ _ _ _ _ _
set_option maxHeartbeats 2000000 in
theorem rpush_arg (T : Tk) (v : Value) (x : Jb) (now : Int) (w : World) (h : TR w v T.js) (hk : T.okB = true) (hn : decide (0 ≤ now ∧ now ≤ 1073741824) = false) :
    Calls Tryd.prog 12 #[T.v v, jv x, .int .i64 now] w fun e w' => e = .returned (.tuple #[zT.v nilS, .int .i64 1]) ∧ Below w.heap.size w w' := by
  have HN := Lib.hid hn
  clear hn
  obtain ⟨W0, hW0⟩ : ∃ y, y = ((w.alloc (.cells #[.int .i64 T.p, v, .int .i64 T.g, .int .i64 T.o, .int .i64 T.l, .int .i64 T.d, .int .i64 T.c, .int .i64 T.t] 26)).alloc (.cells #[.int .i64 x.f0, .int .i64 x.f1, .int .i64 now, .int .i64 x.f3] 28)).alloc (.cells #[.int .i64 0, .slice none 0 0, .int .i64 0, .int .i64 0, .int .i64 0, .int .i64 0, .int .i64 0, .int .i64 0] 26) := ⟨_, rfl⟩
  have hx : BX w.heap.size w W0 [T.cs v, jcs (atJ x now), zT.cs nilS] := by rw [hW0]; exact BX.new w [T.cs v, jcs (atJ x now), zT.cs nilS]
  have HX := Lib.hid hx
  have HW0 := Lib.hid hW0
  have HR := Lib.hid h
  have HK := Lib.hid hk
  clear h hx hW0 hk
  go_enter Tryd.func12, Tryd.ntmps12
  go_wp2_with fail
  rw [← HW0.out]
  generalize hbw : w.heap.size = bw at *
  refine (rvalid_yes T v W0 (HR.out.below (by rw [hbw]; exact HX.out.be)) HK.out).mono ?_
  rintro e w1 ⟨rfl, hb⟩
  have HX1 := Lib.hid (HX.out.call hb)
  clear hb HX
  go_wp2_with fail
  refine (rwithin_c now 1073741824 false HN.out w1).mono ?_
  rintro e w2 ⟨rfl, hb⟩
  have HX2 := Lib.hid (HX1.out.call hb)
  clear hb HX1
  obtain ⟨r0, r1, r2, r3, r4, r5, r6, r7⟩ := HX2.out.t8 (T := zT) (b := bw + 2) 2 rfl rfl
  obtain ⟨f0, f1, f2, f3, f4, f5, f6, f7⟩ := HX2.out.f8 (b := bw + 2) 2 rfl rfl
  go_wp2
  refine bodyPost_ret (v := .tuple #[zT.v nilS, .int .i64 1]) (by simp [results, Tryd.results12, go_sem, r0, r1, r2, r3, r4, r5, r6, r7]) rfl ⟨rfl, ?_⟩
  rw [hbw]
  exact below_set8 HX2.out.be (by omega) _ _ _ _ _ _ _ _
set_option maxHeartbeats 2000000 in
theorem rpush_range (T : Tk) (v : Value) (x : Jb) (now : Int) (w : World) (h : TR w v T.js) (hk : T.okB = true) (hn : decide (0 ≤ now ∧ now ≤ 1073741824) = true) (hm : jobB (atJ x now) = false) :
    Calls Tryd.prog 12 #[T.v v, jv x, .int .i64 now] w fun e w' => e = .returned (.tuple #[zT.v nilS, .int .i64 2]) ∧ Below w.heap.size w w' := by
  have HN := Lib.hid hn
  have HM := Lib.hid hm
  clear hn hm
  obtain ⟨W0, hW0⟩ : ∃ y, y = ((w.alloc (.cells #[.int .i64 T.p, v, .int .i64 T.g, .int .i64 T.o, .int .i64 T.l, .int .i64 T.d, .int .i64 T.c, .int .i64 T.t] 26)).alloc (.cells #[.int .i64 x.f0, .int .i64 x.f1, .int .i64 now, .int .i64 x.f3] 28)).alloc (.cells #[.int .i64 0, .slice none 0 0, .int .i64 0, .int .i64 0, .int .i64 0, .int .i64 0, .int .i64 0, .int .i64 0] 26) := ⟨_, rfl⟩
  have hx : BX w.heap.size w W0 [T.cs v, jcs (atJ x now), zT.cs nilS] := by rw [hW0]; exact BX.new w [T.cs v, jcs (atJ x now), zT.cs nilS]
  have HX := Lib.hid hx
  have HW0 := Lib.hid hW0
  have HR := Lib.hid h
  have HK := Lib.hid hk
  clear h hx hW0 hk
  go_enter Tryd.func12, Tryd.ntmps12
  go_wp2_with fail
  rw [← HW0.out]
  generalize hbw : w.heap.size = bw at *
  refine (rvalid_yes T v W0 (HR.out.below (by rw [hbw]; exact HX.out.be)) HK.out).mono ?_
  rintro e w1 ⟨rfl, hb⟩
  have HX1 := Lib.hid (HX.out.call hb)
  clear hb HX
  go_wp2_with fail
  refine (rwithin_c now 1073741824 true HN.out w1).mono ?_
  rintro e w2 ⟨rfl, hb⟩
  have HX2 := Lib.hid (HX1.out.call hb)
  clear hb HX1
  obtain ⟨j0, j1, j2, j3⟩ := HX2.out.j4 (x := atJ x now) (b := bw + 1) 1 rfl rfl
  go_wp2_with fail
  refine (rjob_c (atJ x now) false HM.out w2).mono ?_
  rintro e w4 ⟨rfl, hb⟩
  have HX4 := Lib.hid (HX2.out.call hb)
  clear hb HX2 j0 j1 j2 j3
  obtain ⟨r0, r1, r2, r3, r4, r5, r6, r7⟩ := HX4.out.t8 (T := zT) (b := bw + 2) 2 rfl rfl
  obtain ⟨f0, f1, f2, f3, f4, f5, f6, f7⟩ := HX4.out.f8 (b := bw + 2) 2 rfl rfl
  go_wp2
  refine bodyPost_ret (v := .tuple #[zT.v nilS, .int .i64 2]) (by simp [results, Tryd.results12, go_sem, r0, r1, r2, r3, r4, r5, r6, r7]) rfl ⟨rfl, ?_⟩
  rw [hbw]
  exact below_set8 HX4.out.be (by omega) _ _ _ _ _ _ _ _
set_option maxHeartbeats 2000000 in
theorem rpush_full (T : Tk) (v : Value) (x : Jb) (now : Int) (w : World) (h : TR w v T.js) (hk : T.okB = true) (hn : decide (0 ≤ now ∧ now ≤ 1073741824) = true) (hm : jobB (atJ x now) = true) (h8 : T.js.length = 8) :
    Calls Tryd.prog 12 #[T.v v, jv x, .int .i64 now] w fun e w' => e = .returned (.tuple #[zT.v nilS, .int .i64 40]) ∧ Below w.heap.size w w' := by
  have HN := Lib.hid hn
  have HM := Lib.hid hm
  clear hn hm
  obtain ⟨A, c, rfl, -, -⟩ := id h
  rw [h8] at h ⊢
  clear h8
  obtain ⟨W0, hW0⟩ : ∃ y, y = ((w.alloc (.cells #[.int .i64 T.p, .slice A 8 c, .int .i64 T.g, .int .i64 T.o, .int .i64 T.l, .int .i64 T.d, .int .i64 T.c, .int .i64 T.t] 26)).alloc (.cells #[.int .i64 x.f0, .int .i64 x.f1, .int .i64 now, .int .i64 x.f3] 28)).alloc (.cells #[.int .i64 0, .slice none 0 0, .int .i64 0, .int .i64 0, .int .i64 0, .int .i64 0, .int .i64 0, .int .i64 0] 26) := ⟨_, rfl⟩
  have hx : BX w.heap.size w W0 [T.cs (.slice A 8 c), jcs (atJ x now), zT.cs nilS] := by rw [hW0]; exact BX.new w [T.cs (.slice A 8 c), jcs (atJ x now), zT.cs nilS]
  have HX := Lib.hid hx
  have HW0 := Lib.hid hW0
  have HR := Lib.hid h
  have HK := Lib.hid hk
  clear h hx hW0 hk
  go_enter Tryd.func12, Tryd.ntmps12
  go_wp2_with fail
  rw [← HW0.out]
  generalize hbw : w.heap.size = bw at *
  refine (rvalid_yes T (.slice A 8 c) W0 (HR.out.below (by rw [hbw]; exact HX.out.be)) HK.out).mono ?_
  rintro e w1 ⟨rfl, hb⟩
  have HX1 := Lib.hid (HX.out.call hb)
  clear hb HX
  go_wp2_with fail
  refine (rwithin_c now 1073741824 true HN.out w1).mono ?_
  rintro e w2 ⟨rfl, hb⟩
  have HX2 := Lib.hid (HX1.out.call hb)
  clear hb HX1
  obtain ⟨j0, j1, j2, j3⟩ := HX2.out.j4 (x := atJ x now) (b := bw + 1) 1 rfl rfl
  go_wp2_with fail
  refine (rjob_c (atJ x now) true HM.out w2).mono ?_
  rintro e w4 ⟨rfl, hb⟩
  have HX4 := Lib.hid (HX2.out.call hb)
  clear hb HX2 j0 j1 j2 j3
  obtain ⟨t0, t1, t2, t3, t4, t5, t6, t7⟩ := HX4.out.t8 (T := T) (b := bw) 0 rfl rfl
  obtain ⟨r0, r1, r2, r3, r4, r5, r6, r7⟩ := HX4.out.t8 (T := zT) (b := bw + 2) 2 rfl rfl
  obtain ⟨f0, f1, f2, f3, f4, f5, f6, f7⟩ := HX4.out.f8 (b := bw + 2) 2 rfl rfl
  go_wp2
  refine bodyPost_ret (v := .tuple #[zT.v nilS, .int .i64 40]) (by simp [results, Tryd.results12, go_sem, r0, r1, r2, r3, r4, r5, r6, r7]) rfl ⟨rfl, ?_⟩
  rw [hbw]
  exact below_set8 HX4.out.be (by omega) _ _ _ _ _ _ _ _
set_option maxHeartbeats 2000000 in
theorem rpush_ok (T : Tk) (v : Value) (x : Jb) (now : Int) (w : World) (h : TR w v T.js) (hk : T.okB = true) (hn : decide (0 ≤ now ∧ now ≤ 1073741824) = true) (hm : jobB (atJ x now) = true) (h8 : T.js.length < 8) :
    Calls Tryd.prog 12 #[T.v v, jv x, .int .i64 now] w fun e w' => ∃ v', e = .returned (.tuple #[Tk.v ⟨T.p, T.js ++ [atJ x now], T.g, T.o, T.l, T.d, T.c, T.t⟩ v', .int .i64 0]) ∧ TR w' v' (T.js ++ [atJ x now]) ∧ Below w.heap.size w w' := by
  have HN := Lib.hid hn
  have HM := Lib.hid hm
  clear hn hm
  obtain ⟨n, hn0⟩ : ∃ n, n = T.js.length := ⟨_, rfl⟩
  have HN0 := Lib.hid hn0
  obtain ⟨A, c, rfl, -, -⟩ := id h
  rw [← hn0] at h ⊢
  rw [← hn0] at h8
  clear hn0
  obtain ⟨W0, hW0⟩ : ∃ y, y = ((w.alloc (.cells #[.int .i64 T.p, .slice A n c, .int .i64 T.g, .int .i64 T.o, .int .i64 T.l, .int .i64 T.d, .int .i64 T.c, .int .i64 T.t] 26)).alloc (.cells #[.int .i64 x.f0, .int .i64 x.f1, .int .i64 now, .int .i64 x.f3] 28)).alloc (.cells #[.int .i64 0, .slice none 0 0, .int .i64 0, .int .i64 0, .int .i64 0, .int .i64 0, .int .i64 0, .int .i64 0] 26) := ⟨_, rfl⟩
  have hx : BX w.heap.size w W0 [T.cs (.slice A n c), jcs (atJ x now), zT.cs nilS] := by rw [hW0]; exact BX.new w [T.cs (.slice A n c), jcs (atJ x now), zT.cs nilS]
  have HX := Lib.hid hx
  have HW0 := Lib.hid hW0
  have HR := Lib.hid h
  have HK := Lib.hid hk
  clear h hx hW0 hk
  go_enter Tryd.func12, Tryd.ntmps12
  go_wp2_with fail
  rw [← HW0.out]
  generalize hbw : w.heap.size = bw at *
  refine (rvalid_yes T (.slice A n c) W0 (HR.out.below (by rw [hbw]; exact HX.out.be)) HK.out).mono ?_
  rintro e w1 ⟨rfl, hb⟩
  have HX1 := Lib.hid (HX.out.call hb)
  clear hb HX
  go_wp2_with fail
  refine (rwithin_c now 1073741824 true HN.out w1).mono ?_
  rintro e w2 ⟨rfl, hb⟩
  have HX2 := Lib.hid (HX1.out.call hb)
  clear hb HX1
  obtain ⟨j0, j1, j2, j3⟩ := HX2.out.j4 (x := atJ x now) (b := bw + 1) 1 rfl rfl
  go_wp2_with fail
  refine (rjob_c (atJ x now) true HM.out w2).mono ?_
  rintro e w4 ⟨rfl, hb⟩
  have HX4 := Lib.hid (HX2.out.call hb)
  clear hb HX2 j0 j1 j2 j3
  obtain ⟨t0, t1, t2, t3, t4, t5, t6, t7⟩ := HX4.out.t8 (T := T) (v := .slice A n c) (b := bw) 0 rfl rfl
  have h8b : decide ((8 : Int) ≤ (n : Int)) = false := decide_eq_false (by omega)
  have h8c : decide (8 ≤ n) = false := decide_eq_false (by omega)
  go_wp2_with fail
  refine (twin_c T (.slice A n c) w4 (HR.out.below (by rw [hbw]; exact HX4.out.be)) (by have := HN0.out; omega)).mono ?_
  rintro e w5 ⟨v5, rfl, hR, hb⟩
  have HX5 := Lib.hid (HX4.out.call hb)
  have hs4 := HX4.out.size (by simp)
  obtain ⟨A5, c5, hv5⟩ := Kd.R_slice hR
  rw [← HN0.out] at hv5
  subst hv5
  have hR5 : kJ.R 28 w5 (bw + 3) (fun _ => True) (.slice A5 n c5) T.js := Kd.R_lower hR hs4
  obtain ⟨u0, u1, u2, u3, u4, u5, u6, u7⟩ := HX5.out.f8 (b := bw) 0 rfl rfl
  obtain ⟨s0, s1, s2, s3, s4, s5, s6, s7⟩ := HX5.out.t8 (T := T) (v := .slice A n c) (b := bw) 0 rfl rfl
  obtain ⟨j0, j1, j2, j3⟩ := HX5.out.j4 (x := atJ x now) (b := bw + 1) 1 rfl rfl
  obtain ⟨W6, hW6⟩ : ∃ y, y = (((((((w5.setCell ⟨bw, 0, none⟩ (.int .i64 T.p)).setCell ⟨bw, 1, none⟩ (.slice A5 n c5)).setCell ⟨bw, 2, none⟩ (.int .i64 T.g)).setCell ⟨bw, 3, none⟩ (.int .i64 T.o)).setCell ⟨bw, 4, none⟩ (.int .i64 T.l)).setCell ⟨bw, 5, none⟩ (.int .i64 T.d)).setCell ⟨bw, 6, none⟩ (.int .i64 T.c)).setCell ⟨bw, 7, none⟩ (.int .i64 T.t) := ⟨_, rfl⟩
  have HX6 : Hid (BX bw w W6 [T.cs (.slice A5 n c5), jcs (atJ x now), zT.cs nilS]) := by
    rw [hW6]
    exact Lib.hid (HX5.out.set8 0 rfl (t := 26) rfl _ _ _ _ _ _ _ _)
  have hR6 : kJ.R 28 W6 (bw + 3) (fun _ => True) (.slice A5 n c5) T.js := by
    refine Kd.R_mono (Kd.R_step (Kd.R_bound hR5) (fun k hk hlt => ?_)) (fun _ _ => trivial)
    have hk' : bw + 3 ≤ k := hk.2.1
    have m1 : k ≠ bw := by omega
    rw [hW6]
    exact heap_set8 m1 _ _ _ _ _ _ _ _
  have HR6 := Lib.hid hR6
  have HSZ : Hid (w5.heap.size = W6.heap.size) := by rw [hW6]; exact Lib.hid (by simp)
  have HW6 := Lib.hid hW6
  have hs6 : bw + 3 ≤ W6.heap.size := HX6.out.size (by simp)
  clear hb hR hR5 hR6 hW6 HX4 HX5 t0 t1 t2 t3 t4 t5 t6 t7 hs4
  have hl8 : T.js.length < 8 := by have := HN0.out; omega
  go_wp2_with (first
    | (at_builtin; rw [← HW6.out, HSZ.out]; go_loud (refine Kd.R_append kJ (w0 := W6) (bw + 3) rfl (.tmp 34) (.tmp 36) 22 28 (.agg #[.int .i64 0, .int .i64 0, .int .i64 0, .int .i64 0]) 32 rfl Tryd.underlying22 infoJ rfl (by decide) (by omega) _ T.js (atJ x now) (cJ (atJ x now)) (fun _ => True) (fun _ => False) rfl rfl (k28_mkM _ _ _ _) (fun _ hk => hk.elim) (fun _ _ => trivial) HR6.out (Below.refl _ _) hs6 (by omega) ?_); intro v7 w7 hR7 hB7 hg7 hat7; obtain ⟨A7, c7, rfl⟩ := Kd.R_slice hR7; obtain ⟨HX7, HT7⟩ := rpush_after (HX6.out) hR7 hB7; obtain ⟨t0, t1, t2, t3, t4, t5, t6, t7⟩ := HX7.out.t8 (T := T) (v := .slice A5 n c5) (b := bw) 0 rfl rfl; obtain ⟨u0, u1, u2, u3, u4, u5, u6, u7⟩ := HX7.out.f8 (b := bw) 0 rfl rfl; obtain ⟨r0, r1, r2, r3, r4, r5, r6, r7⟩ := HX7.out.t8 (T := zT) (b := bw + 2) 2 rfl rfl; obtain ⟨f0, f1, f2, f3, f4, f5, f6, f7⟩ := HX7.out.f8 (b := bw + 2) 2 rfl rfl; clear hR7 hB7 hg7 hat7)
    | fail)
  refine bodyPost_ret (v := .tuple #[Tk.v ⟨T.p, T.js ++ [atJ x now], T.g, T.o, T.l, T.d, T.c, T.t⟩ (.slice A7 (T.js ++ [atJ x now]).length c7), .int .i64 0]) (by simp [results, Tryd.results12, go_sem, r0, r1, r2, r3, r4, r5, r6, r7]) rfl ⟨_, rfl, ?_, ?_⟩
  · refine TR.of_R (base := bw + 3) (e := 28) (ok := fun _ => True) (Kd.R_mono (Kd.R_step (Kd.R_bound HT7.out) (fun k hk hlt => ?_)) (fun _ _ => trivial))
    have hk' : bw + 3 ≤ k := hk.2.1
    have m1 : k ≠ bw := by omega
    have m2 : k ≠ bw + 1 + 1 := by omega
    rw [heap_set8 m2, Below.heap_setCell _ _ _ _ m1]
  · exact below_set8 (HX7.out.be.setCell (p := ⟨bw, 1, none⟩) (Nat.le_refl _) _) (by omega) _ _ _ _ _ _ _ _

def RPushPost (T : Tk) (x : Jb) (now : Int) (w : World) (e : Ending) (w' : World) : Prop := ∃ v', e = .returned (.tuple #[(pushF T x now).1.v v', .int .i64 (pushF T x now).2]) ∧ TR w' v' (pushF T x now).1.js ∧ Below w.heap.size w w'
theorem rpush_any (T : Tk) (v : Value) (x : Jb) (now : Int) (w : World) (h : TR w v T.js) (hl : T.js.length ≤ 9223372036854775800) :
    Calls Tryd.prog 12 #[T.v v, jv x, .int .i64 now] w (RPushPost T x now w) := by
  unfold RPushPost
  cases hk : T.okB with
  | false =>
    have e : pushF T x now = (zT, 270) := by simp [pushF, hk]
    rw [e]
    exact (rpush_state T v x now w h hl hk).mono fun e w' h => ⟨nilS, h.1, TR.nil _, h.2⟩
  | true =>
    by_cases hn : 0 ≤ now ∧ now ≤ 1073741824
    · cases hm : jobB (atJ x now) with
      | false =>
        have e : pushF T x now = (zT, 2) := by unfold pushF; rw [if_neg (by simp [hk]), if_neg (by simp [hn]), if_pos hm]
        rw [e]
        exact (rpush_range T v x now w h hk (decide_eq_true hn) hm).mono fun e w' h => ⟨nilS, h.1, TR.nil _, h.2⟩
      | true =>
        by_cases h8 : 8 ≤ T.js.length
        · have e : pushF T x now = (zT, 40) := by unfold pushF; rw [if_neg (by simp [hk]), if_neg (by simp [hn]), if_neg (by simp [hm]), if_pos h8]
          rw [e]
          exact (rpush_full T v x now w h hk (decide_eq_true hn) hm (by have := Tk.ok_len hk; omega)).mono fun e w' h => ⟨nilS, h.1, TR.nil _, h.2⟩
        · have e : pushF T x now = (⟨T.p, T.js ++ [atJ x now], T.g, T.o, T.l, T.d, T.c, T.t⟩, 0) := by unfold pushF; rw [if_neg (by simp [hk]), if_neg (by simp [hn]), if_neg (by simp [hm]), if_neg h8]
          rw [e]
          exact rpush_ok T v x now w h hk (decide_eq_true hn) hm (by omega)
    · have e : pushF T x now = (zT, 1) := by unfold pushF; rw [if_neg (by simp [hk]), if_pos hn]
      rw [e]
      exact (rpush_arg T v x now w h hk (decide_eq_false hn)).mono fun e w' h => ⟨nilS, h.1, TR.nil _, h.2⟩

end Go.Proofs.YtkfjlkpickeobaaDoor
