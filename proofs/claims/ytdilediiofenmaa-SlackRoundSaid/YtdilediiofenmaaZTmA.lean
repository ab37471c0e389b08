/- Of the text TmA only what this claim needs (shake.py, this repo's). -/
import Derived.Test.YtdilediiofenmaaProg
import Derived.WalkKit
import Derived.Lib.Hide
import Derived.Deep.QuietTactic
import Derived.BigQuiet
import Derived.IntWalk
import Derived.Deep.RegionHeld3
import Derived.Deep.AppendLies
import Derived.OwnWalk
import Derived.Laws.OwnMore
import Derived.Laws.CopyOwn
import Derived.StillTailTactics
import Derived.Deep.DeepCutAuto
import Derived.Deep.CutBlock
import Derived.Test.YtdilediiofenmaaZPSlackRunsx0
set_option linter.unusedVariables false
namespace Go.Proofs.Ytdilediiofenmaa
open Go.RowKit

/-- A cell that is there stays there behind a callee. -/
theorem keep {W w1 : World} (hb : Below W.heap.size W w1) {b o : Nat} {v : Value} (h : W.cell? ⟨b, o, none⟩ = some v) : w1.cell? ⟨b, o, none⟩ = some v := by
  rw [hb.cell (p := ⟨b, o, none⟩)]
  · exact h
  · rcases Nat.lt_or_ge b W.heap.size with k | k
    · exact k
    · simp [World.cell?, Array.getElem?_eq_none k] at h

theorem below_alloc {B : Nat} {a w : World} (h : Below B a w) (hB : B ≤ a.heap.size) (o : Obj) : Below B a (w.alloc o) := h.alloc (Nat.le_trans hB h.size) o

theorem below_call {B : Nat} {a w w' : World} (h : Below B a w) (hB : B ≤ a.heap.size) (k : Below w.heap.size w w') : Below B a w' := h.trans (k.mono (Nat.le_trans hB h.size))

theorem below_drewN' {B : Nat} {a w : World} (h : Below B a w) (n : Nat) : Below B a (w.drewN n) := ⟨h.os, h.tape, h.output, h.size, h.block⟩

theorem ret_int {k : IntKind} {a b : Int} (h : a = b) : Ending.returned (.int k a) = .returned (.int k b) := by rw [h]
/-- May a reservation be? -/
def Vld (q p : Int) : Prop := 1 ≤ q ∧ p ≤ 1048576 ∧ q ≤ p
theorem Vld.lo {q p : Int} (h : Vld q p) : 1 ≤ q := h.1
theorem Vld.top {q p : Int} (h : Vld q p) : p ≤ 1048576 := h.2.1
theorem Vld.le {q p : Int} (h : Vld q p) : q ≤ p := h.2.2
instance (q p : Int) : Decidable (Vld q p) := by unfold Vld; infer_instance
theorem Vld.c1 {q p : Int} (h : Vld q p) : decide (q < 1) = false := by have := h.lo; simp; omega
theorem Vld.c2 {q p : Int} (h : Vld q p) : decide (1048576 < p) = false := by have := h.top; simp; omega
theorem Vld.c3 {q p : Int} (h : Vld q p) : decide (p < q) = false := by have := h.le; simp; omega

end Go.Proofs.Ytdilediiofenmaa

set_option linter.unusedVariables false
set_option linter.unusedSimpArgs false
namespace Go.Proofs.Ytdilediiofenmaa
open Go.RowKit

/-- The later world is the elder one but for some blocks, and new ones. -/
structure Chg (S : Nat → Prop) (w w' : World) : Prop where
  os : w'.os = w.os
  tape : w'.tape = w.tape
  output : w'.output = w.output
  size : w.heap.size ≤ w'.heap.size
  block : ∀ k, k < w.heap.size → ¬ S k → w'.heap[k]? = w.heap[k]?

theorem Chg.refl (S : Nat → Prop) (w : World) : Chg S w w := ⟨rfl, rfl, rfl, Nat.le_refl _, fun _ _ _ => rfl⟩
theorem Chg.trans {S : Nat → Prop} {a b c : World} (h : Chg S a b) (k : Chg S b c) : Chg S a c :=
  ⟨k.os.trans h.os, k.tape.trans h.tape, k.output.trans h.output, Nat.le_trans h.size k.size, fun i hi hn => (k.block i (Nat.lt_of_lt_of_le hi h.size) hn).trans (h.block i hi hn)⟩
theorem Chg.mono {S T : Nat → Prop} {a b : World} (h : Chg S a b) (m : ∀ k, k < a.heap.size → S k → T k) : Chg T a b :=
  ⟨h.os, h.tape, h.output, h.size, fun i hi hn => h.block i hi (fun hs => hn (m i hi hs))⟩
theorem Chg.below {S : Nat → Prop} {a b : World} {B : Nat} (h : Chg S a b) (hB : B ≤ a.heap.size) (m : ∀ k, S k → B ≤ k) : Below B a b :=
  ⟨h.os, h.tape, h.output, h.size, fun k hk => h.block k (by omega) (fun hs => by have := m k hs; omega)⟩
theorem Chg.ofBelow {a b : World} (h : Below a.heap.size a b) (S : Nat → Prop) : Chg S a b :=
  ⟨h.os, h.tape, h.output, h.size, fun k hk _ => h.block k hk⟩
theorem Chg.drew {S : Nat → Prop} {a b : World} (h : Chg S a b) : Chg S a b.drew := ⟨h.os, h.tape, h.output, h.size, h.block⟩
theorem Chg.drewN {S : Nat → Prop} {a b : World} (h : Chg S a b) (n : Nat) : Chg S a (b.drewN n) := ⟨h.os, h.tape, h.output, h.size, h.block⟩
theorem Chg.alloc {S : Nat → Prop} {a b : World} (h : Chg S a b) (o : Obj) : Chg S a (b.alloc o) :=
  h.trans (Chg.ofBelow ((Below.refl _ b).alloc (Nat.le_refl _) o) S)
theorem Chg.heap {S : Nat → Prop} {a b : World} (h : Chg S a b) {k : Nat} {o : Obj} (hk : a.heap[k]? = some o) (hn : ¬ S k) : b.heap[k]? = some o := by
  rw [h.block k _ hn, hk]
  exact (Array.getElem?_eq_some_iff.1 hk).1

end Go.Proofs.Ytdilediiofenmaa

set_option linter.unusedVariables false
set_option linter.unusedSimpArgs false
namespace Go.Proofs.Ytdilediiofenmaa
open Go.RowKit
open Go.Proofs.YtdilediiofenmaaW.PrintWords (Kd Drawn0 Kept rd rdOf)
open Go.Proofs.Ytdilediiofenmaa.PSlackRuns
set_option maxRecDepth 100000

theorem Chg.setCell {S : Nat → Prop} {a b : World} (h : Chg S a b) (p : Addr) (v : Value) (hp : S p.block) : Chg S a (b.setCell p v) :=
  h.trans ⟨rfl, rfl, rfl, by simp, fun k _ hn => heap_setCell_other b p k v (fun e => hn (by first | (rw [e]; exact hp) | (rw [← e]; exact hp)))⟩

abbrev Jb := S32
abbrev kJ := k32
abbrev zJ : Jb := ⟨0, 0, 0, 0⟩
abbrev cJ (x : Jb) : List Value := [.int .i64 x.f0, .int .i64 x.f1, .int .i64 x.f2, .int .i64 x.f3]

/-- A queue of jobs with a ring. -/
structure JQ (w : World) (q g n cap first many lim : Nat) (rs : List Jb) : Prop where
  blk : w.heap[q]? = some (.cells #[.slice (some ⟨g, 0, none⟩) n cap, .int .i64 (first : Int), .int .i64 (many : Int), .int .i64 (lim : Int)] 151 (0, 0))
  row : kJ.R 32 w 0 (fun k => k = g) (.slice (some ⟨g, 0, none⟩) n cap) rs
  ne : g ≠ q
  f_lt : first < n
  many_le : many ≤ n
  n_le : n ≤ lim
  lim_le : lim ≤ 4096
/-- A queue of jobs with none yet. -/
structure JN (w : World) (q lim : Nat) : Prop where
  blk : w.heap[q]? = some (.cells #[.slice none 0 0, .int .i64 0, .int .i64 0, .int .i64 (lim : Int)] 151 (0, 0))
  lim_le : lim ≤ 4096
/-- The first k jobs. -/
def jl (rs : List Jb) (n first k : Nat) : List Jb := (List.range k).map fun j => rs.getD ((first + j) % n) zJ
theorem jl_length (rs : List Jb) (n first k : Nat) : (jl rs n first k).length = k := by simp [jl]
theorem jl_succ (rs : List Jb) (n first k : Nat) : jl rs n first (k + 1) = jl rs n first k ++ [rs.getD ((first + k) % n) zJ] := by simp [jl, List.range_succ]

section
variable {w w' : World} {q g n cap first many lim : Nat} {rs : List Jb}
theorem JQ.c0 (h : JQ w q g n cap first many lim rs) : w.cell? ⟨q, 0, none⟩ = some (.slice (some ⟨g, 0, none⟩) n cap) := by simp [World.cell?, h.blk]
theorem JQ.c1 (h : JQ w q g n cap first many lim rs) : w.cell? ⟨q, 1, none⟩ = some (.int .i64 (first : Int)) := by simp [World.cell?, h.blk]
theorem JQ.c2 (h : JQ w q g n cap first many lim rs) : w.cell? ⟨q, 2, none⟩ = some (.int .i64 (many : Int)) := by simp [World.cell?, h.blk]
theorem JQ.c3 (h : JQ w q g n cap first many lim rs) : w.cell? ⟨q, 3, none⟩ = some (.int .i64 (lim : Int)) := by simp [World.cell?, h.blk]
theorem JQ.fz (h : JQ w q g n cap first many lim rs) (o : Nat) : w.frozen? ⟨q, o, none⟩ = false := by simp [World.frozen?, h.blk]
theorem JQ.lt (h : JQ w q g n cap first many lim rs) : q < w.heap.size := (Array.getElem?_eq_some_iff.1 h.blk).1
theorem JQ.ltg (h : JQ w q g n cap first many lim rs) : g < w.heap.size := Kd.R_lt h.row g rfl
theorem JQ.len (h : JQ w q g n cap first many lim rs) : rs.length = n := (Kd.R_reads' h.row).1.symm
theorem JQ.le (h : JQ w q g n cap first many lim rs) : n ≤ cap := (Kd.R_reads' h.row).2.1
theorem JQ.elem (h : JQ w q g n cap first many lim rs) {i : Nat} {x : Jb} (hx : rs[i]? = some x) :
    (∀ j u, (cJ x)[j]? = some u → w.cell? ⟨g, i * 4 + j, none⟩ = some u) ∧ ∀ j, w.frozen? ⟨g, i * 4 + j, none⟩ = false := by
  have hi : i < rs.length := (List.getElem?_eq_some_iff.1 hx).1
  have hl := h.len
  obtain ⟨c, h1, h2, h3, h4⟩ := Kd.R_elem h.row zJ (i : Int) (by omega) (by omega)
  have e : rs.getD (i : Int).toNat zJ = x := by
    rw [List.getD_eq_getElem?_getD]; simp [hx]
  rw [e] at h2
  have h2' := k32_openM h2
  subst h2'
  exact ⟨fun j u hj => h3 j u hj, fun j => h4 j⟩
theorem JQ.cells (h : JQ w q g n cap first many lim rs) {i : Nat} {x : Jb} (hx : rs[i]? = some x) :
    w.cell? ⟨g, i * 4, none⟩ = some (.int .i64 x.f0) ∧ w.cell? ⟨g, i * 4 + 1, none⟩ = some (.int .i64 x.f1) ∧ w.cell? ⟨g, i * 4 + 2, none⟩ = some (.int .i64 x.f2) ∧ w.cell? ⟨g, i * 4 + 3, none⟩ = some (.int .i64 x.f3) :=
  ⟨(h.elem hx).1 0 _ rfl, (h.elem hx).1 1 _ rfl, (h.elem hx).1 2 _ rfl, (h.elem hx).1 3 _ rfl⟩
theorem JQ.frozen (h : JQ w q g n cap first many lim rs) {i : Nat} {x : Jb} (hx : rs[i]? = some x) :
    w.frozen? ⟨g, i * 4, none⟩ = false ∧ w.frozen? ⟨g, i * 4 + 1, none⟩ = false ∧ w.frozen? ⟨g, i * 4 + 2, none⟩ = false ∧ w.frozen? ⟨g, i * 4 + 3, none⟩ = false :=
  ⟨(h.elem hx).2 0, (h.elem hx).2 1, (h.elem hx).2 2, (h.elem hx).2 3⟩
theorem JQ.chg (h : JQ w q g n cap first many lim rs) {S : Nat → Prop} (hc : Chg S w w') (h1 : ¬ S q) (h2 : ¬ S g) : JQ w' q g n cap first many lim rs :=
  ⟨hc.heap h.blk h1, Kd.R_step h.row (fun k hk hlt => by obtain rfl : k = g := hk; exact hc.block _ hlt h2), h.ne, h.f_lt, h.many_le, h.n_le, h.lim_le⟩
theorem JQ.chgA (h : JQ w q g n cap first many lim rs) (hc : Chg (fun _ => False) w w') : JQ w' q g n cap first many lim rs := h.chg hc (fun f => f) (fun f => f)
theorem JQ.below (h : JQ w q g n cap first many lim rs) (hb : Below w.heap.size w w') : JQ w' q g n cap first many lim rs :=
  h.chg (Chg.ofBelow hb (fun _ => False)) (fun f => f) (fun f => f)
theorem JQ.heap (h : JQ w q g n cap first many lim rs) (e : w'.heap = w.heap) : JQ w' q g n cap first many lim rs :=
  ⟨by rw [e]; exact h.blk, Kd.R_step h.row (fun k hk hlt => by rw [e]), h.ne, h.f_lt, h.many_le, h.n_le, h.lim_le⟩
theorem JQ.set (h : JQ w q g n cap first many lim rs) {i : Nat} (hi : i < n) (x' : Jb) :
    JQ ((((w.setCell ⟨g, i * 4, none⟩ (.int .i64 x'.f0)).setCell ⟨g, i * 4 + 1, none⟩ (.int .i64 x'.f1)).setCell ⟨g, i * 4 + 2, none⟩ (.int .i64 x'.f2)).setCell ⟨g, i * 4 + 3, none⟩ (.int .i64 x'.f3)) q g n cap first many lim (rs.set i x') := by
  have hl := h.len
  have hx : rs[i]? = some (rs[i]'(by omega)) := List.getElem?_eq_getElem (by omega)
  have r := Kd.R_seg (okp := fun _ => False) h.row (i : Int) (by omega) (by omega) (c := cJ (rs[i]'(by omega))) (seg := cJ x') (j := 0) rfl
    (fun j' u hu => (h.elem hx).1 j' u hu) (by show 0 + 4 ≤ 4; omega) (x' := x') (k32_mkM _ _ _ _) (fun k f => f.elim)
  have e : w.setCells g ((i : Int).toNat * kJ.sz + 0) (cJ x') = ((((w.setCell ⟨g, i * 4, none⟩ (.int .i64 x'.f0)).setCell ⟨g, i * 4 + 1, none⟩ (.int .i64 x'.f1)).setCell ⟨g, i * 4 + 2, none⟩ (.int .i64 x'.f2)).setCell ⟨g, i * 4 + 3, none⟩ (.int .i64 x'.f3)) := rfl
  rw [e] at r
  refine ⟨?_, by simpa using r.1, h.ne, h.f_lt, h.many_le, h.n_le, h.lim_le⟩
  have hn : q ≠ g := fun e => h.ne e.symm
  rw [Below.heap_setCell _ _ _ _ (by exact hn), Below.heap_setCell _ _ _ _ (by exact hn), Below.heap_setCell _ _ _ _ (by exact hn), Below.heap_setCell _ _ _ _ (by exact hn)]
  exact h.blk
theorem JQ.set1 (h : JQ w q g n cap first many lim rs) (f : Nat) (hf : f < n) : JQ (w.setCell ⟨q, 1, none⟩ (.int .i64 (f : Int))) q g n cap f many lim rs :=
  ⟨heap_setCell_same w q 1 _ _ (.int .i64 (f : Int)) h.blk, Kd.R_step h.row (fun k hk _ => by obtain rfl : k = g := hk; exact Below.heap_setCell _ _ _ _ h.ne), h.ne, hf, h.many_le, h.n_le, h.lim_le⟩
theorem JQ.set2 (h : JQ w q g n cap first many lim rs) (m : Nat) (hm : m ≤ n) : JQ (w.setCell ⟨q, 2, none⟩ (.int .i64 (m : Int))) q g n cap first m lim rs :=
  ⟨heap_setCell_same w q 2 _ _ (.int .i64 (m : Int)) h.blk, Kd.R_step h.row (fun k hk _ => by obtain rfl : k = g := hk; exact Below.heap_setCell _ _ _ _ h.ne), h.ne, h.f_lt, hm, h.n_le, h.lim_le⟩
theorem JQ.at (h : JQ w q g n cap first many lim rs) (i : Nat) : ∃ x, rs[(first + i) % n]? = some x ∧ rs.getD ((first + i) % n) zJ = x := by
  have hl := h.len
  have hj : (first + i) % n < rs.length := by rw [hl]; exact Nat.mod_lt _ (by have := h.f_lt; omega)
  exact ⟨_, List.getElem?_eq_getElem hj, by simp [List.getD, List.getElem?_eq_getElem hj]⟩
theorem JN.c0 (h : JN w q lim) : w.cell? ⟨q, 0, none⟩ = some (.slice none 0 0) := by simp [World.cell?, h.blk]
theorem JN.c1 (h : JN w q lim) : w.cell? ⟨q, 1, none⟩ = some (.int .i64 0) := by simp [World.cell?, h.blk]
theorem JN.c2 (h : JN w q lim) : w.cell? ⟨q, 2, none⟩ = some (.int .i64 0) := by simp [World.cell?, h.blk]
theorem JN.c3 (h : JN w q lim) : w.cell? ⟨q, 3, none⟩ = some (.int .i64 (lim : Int)) := by simp [World.cell?, h.blk]
theorem JN.fz (h : JN w q lim) (o : Nat) : w.frozen? ⟨q, o, none⟩ = false := by simp [World.frozen?, h.blk]
theorem JN.lt (h : JN w q lim) : q < w.heap.size := (Array.getElem?_eq_some_iff.1 h.blk).1
theorem JN.chg (h : JN w q lim) {S : Nat → Prop} (hc : Chg S w w') (h1 : ¬ S q) : JN w' q lim := ⟨hc.heap h.blk h1, h.lim_le⟩
theorem JN.chgA (h : JN w q lim) (hc : Chg (fun _ => False) w w') : JN w' q lim := h.chg hc (fun f => f)
theorem JN.below (h : JN w q lim) (hb : Below w.heap.size w w') : JN w' q lim := h.chg (Chg.ofBelow hb (fun _ => False)) (fun f => f)
theorem JN.heap (h : JN w q lim) (e : w'.heap = w.heap) : JN w' q lim := ⟨by rw [e]; exact h.blk, h.lim_le⟩
/-- A ring of its own, first at 0. -/
theorem JQ.ring0 {W : World} {q g n cap lim : Nat} {rs : List Jb} {v : Value} {f0 m0 : Int} (hb : W.heap[q]? = some (.cells #[v, .int .i64 f0, .int .i64 m0, .int .i64 (lim : Int)] 151 (0, 0))) (many : Nat) (hm0 : m0 = many)
    (hr : kJ.R 32 W 0 (fun k => k = g) (.slice (some ⟨g, 0, none⟩) n cap) rs) (hne : g ≠ q) (h0 : 0 < n) (hm : many ≤ n) (hl : n ≤ lim) (h4 : lim ≤ 4096) :
    JQ ((W.setCell ⟨q, 0, none⟩ (.slice (some ⟨g, 0, none⟩) n cap)).setCell ⟨q, 1, none⟩ (.int .i64 0)) q g n cap 0 many lim rs := by
  subst hm0
  have h1 := heap_setCell_same W q 0 _ _ (.slice (some ⟨g, 0, none⟩) n cap) hb
  have h2 := heap_setCell_same _ q 1 _ _ (.int .i64 0) h1
  exact ⟨h2, Kd.R_step hr (fun k hk _ => by obtain rfl : k = g := hk; rw [Below.heap_setCell _ _ _ _ hne, Below.heap_setCell _ _ _ _ hne]), hne, h0, hm, hl, h4⟩
end

theorem jhas_t (q : Nat) (i many : Int) (w : World) (c2 : w.cell? ⟨q, 2, none⟩ = some (.int .i64 many)) (h0 : 0 ≤ i) (h1 : i < many) :
    Calls Try.prog 89 #[.pointer (some ⟨q, 0, none⟩), .int .i64 i] w fun e w' => e = .returned (.bool true) ∧ w = w' := by
  have t0 : decide (0 ≤ i) = true := by simpa
  have t1 : decide (i < many) = true := by simpa
  go_enter Try.func89, Try.ntmps89
  go_wp2_with fail
  go_ret
  exact ⟨rfl, rfl⟩

theorem jat_q (q : Nat) (ra : Option Addr) (cap' : Nat) (i first cap : Nat) (w : World) (h1 : cap ≤ 4096) (h2 : first < cap) (h3 : i ≤ cap)
  (c0 : w.cell? ⟨q, 0, none⟩ = some (.slice ra cap cap')) (c1 : w.cell? ⟨q, 1, none⟩ = some (.int .i64 first)) :
    Calls Try.prog 84 #[.pointer (some ⟨q, 0, none⟩), .int .i64 i] w fun e w' => e = .returned (.int .i64 (((first + i) % cap : Nat) : Int)) ∧ ∃ d, w' = w.drewN d := by
  have t0 : (((cap : Int)) == 0) = false := by simp; omega
  go_enter Try.func84, Try.ntmps84
  go_wp2_with (go_quiet (fail))
  all_goals go_ret
  all_goals (refine ⟨?_, _, rfl⟩; exact ret_int (by push_cast; rfl))

theorem jlen_ok (q : Nat) (many : Int) (w : World) (c2 : w.cell? ⟨q, 2, none⟩ = some (.int .i64 many)) :
    Calls Try.prog 85 #[.pointer (some ⟨q, 0, none⟩)] w fun e w' => e = .returned (.int .i64 many) ∧ w = w' := by
  go_enter Try.func85, Try.ntmps85
  go_wp2_with fail
  go_ret
  exact ⟨rfl, rfl⟩

theorem jlimit_ok (q : Nat) (lim : Int) (w : World) (c3 : w.cell? ⟨q, 3, none⟩ = some (.int .i64 lim)) :
    Calls Try.prog 91 #[.pointer (some ⟨q, 0, none⟩)] w fun e w' => e = .returned (.int .i64 lim) ∧ w = w' := by
  go_enter Try.func91, Try.ntmps91
  go_wp2_with fail
  go_ret
  exact ⟨rfl, rfl⟩

theorem jroom_ok (q : Nat) (many lim : Nat) (w : World) (c2 : w.cell? ⟨q, 2, none⟩ = some (.int .i64 many)) (c3 : w.cell? ⟨q, 3, none⟩ = some (.int .i64 lim)) (h1 : many ≤ lim) (h2 : lim ≤ 4096) :
    Calls Try.prog 83 #[.pointer (some ⟨q, 0, none⟩)] w fun e w' => e = .returned (.int .i64 ((lim - many : Nat) : Int)) ∧ w = w' := by
  go_enter Try.func83, Try.ntmps83
  go_wp2_with fail
  refine (jlimit_ok q lim w c3).mono ?_
  rintro e w1 ⟨rfl, rfl⟩
  go_wp2_with fail
  refine (jlen_ok q many w c2).mono ?_
  rintro e w1 ⟨rfl, rfl⟩
  go_wp2_with fail
  go_ret
  refine ⟨?_, rfl⟩
  exact ret_int (by omega)

end Go.Proofs.Ytdilediiofenmaa

set_option linter.unusedVariables false
set_option linter.unusedSimpArgs false
namespace Go.Proofs.Ytdilediiofenmaa
open Go.RowKit
open Go.Proofs.YtdilediiofenmaaW.PrintWords (Kd Drawn0 Kept rd rdOf)
open Go.Proofs.Ytdilediiofenmaa.PSlackRuns
set_option maxRecDepth 100000

theorem infoJ : (Try.prog.info? 32).map (fun i => (i.zero, i.size, i.bytes)) = some (some (.agg #[.int .i64 0, .int .i64 0, .int .i64 0, .int .i64 0]), 4, 32) := by kernel_rfl

section
variable {w : World} {q g n cap first many lim : Nat} {rs : List Jb}
theorem JQ.small (h : JQ w q g n cap first many lim rs) : n ≤ 4096 := by have := h.n_le; have := h.lim_le; omega
/-- at, in whatever world of this heap. -/
theorem JQ.at_any (h : JQ w q g n cap first many lim rs) (i : Nat) (hi : i ≤ n) : ∀ W : World, W.heap = w.heap → Calls Try.prog 84 #[.pointer (some ⟨q, 0, none⟩), .int .i64 i] W fun e w' => e = .returned (.int .i64 (((first + i) % n : Nat) : Int)) ∧ ∃ d, w' = W.drewN d := fun W e =>
  have HW := h.heap e
  jat_q q _ cap i first n W h.small h.f_lt hi HW.c0 HW.c1
end

set_option maxHeartbeats 1000000 in
theorem jlist_some (q g n cap first many lim : Nat) (rs : List Jb) (w : World) (h : JQ w q g n cap first many lim rs) :
    Calls Try.prog 64 #[.pointer (some ⟨q, 0, none⟩)] w fun e w' => ∃ v, e = .returned v ∧ kJ.R 32 w' w.heap.size (fun _ => True) v (jl rs n first many) ∧ Below w.heap.size w w' := by
  have c2 := h.c2
  have b4 : many ≤ 4096 := by have := h.many_le; have := h.small; omega
  have HH := Lib.hid h
  clear h
  go_enter Try.func64, Try.ntmps64
  go_wp2_with fail
  refine (jlen_ok q many w c2).mono ?_
  rintro e w1 ⟨rfl, rfl⟩
  go_wp2_with fail
  clear c2
  go_loopw [3, 7] (fun v i wr => ∃ k : Nat, k ≤ many ∧ i = .int .i64 k ∧ Hid (kJ.R 32 wr w.heap.size (fun _ => True) v (jl rs n first k)) ∧ Hid (Below w.heap.size w wr)) (fun _ i _ => many - (intOf i).toNat)
  case atStart => exact ⟨0, Nat.zero_le _, rfl, Lib.hid (Kd.R_nil _ _ _ _ _), Lib.hid (Below.refl _ _)⟩
  case round =>
    obtain ⟨k, hk, rfl, hR, hB⟩ := hrel
    by_cases hlt : k < many
    · have HQ := HH.out.below hB.out
      have c0 := HQ.c0
      have c1 := HQ.c1
      obtain ⟨j, hj⟩ : ∃ j, j = (first + k) % n := ⟨_, rfl⟩
      have hjn : j < n := by rw [hj]; exact Nat.mod_lt _ (by have := HQ.f_lt; omega)
      obtain ⟨x, hx, hd⟩ := HQ.at k
      rw [← hj] at hx
      obtain ⟨x0, x1, x2, x3⟩ := HQ.cells hx
      have A := HQ.at_any k (by have := HQ.many_le; omega)
      rw [← hj] at A
      have HA := Lib.hid A
      have HS := Lib.hid (show jl rs n first (k + 1) = jl rs n first k ++ [x] by rw [jl_succ, hd])
      have hlk : (jl rs n first k).length = k := jl_length _ _ _ _
      have hqw := HQ.lt
      have hgw := HQ.ltg
      clear HQ A hj hd hx
      go_wp2_with fail
      go_region_law (first
        | (go_simp; go_at_call 84; refine (HA.out (World.drew wr) rfl).mono ?_; rintro e w' ⟨rfl, d, rfl⟩)
        | (refine Kd.R_append_step kJ (w0 := w) w.heap.size (by rfl) (.tmp 10) (.tmp 20) 52 32 (.agg #[.int .i64 0, .int .i64 0, .int .i64 0, .int .i64 0]) 32 rfl Try.underlying52 infoJ rfl (by decide) (by omega) _ (jl rs n first k) x (cJ x) (fun _ => True) (fun _ => False) rfl rfl (k32_mkM _ _ _ _) (fun _ hk => hk.elim) (fun _ _ => trivial) (Kd.R_drewN hR.out _) (below_drewN' hB.out _) (by have := hB.out.size; simp; omega) (by omega) ?_; intro v1 w1 hR1 hB1 hg1 hat1))
      all_goals
        have HR1 := Lib.hid (show kJ.R 32 w1 w.heap.size (fun _ => True) v1 (jl rs n first (k + 1)) by rw [HS.out]; exact hR1)
        have HB1 := Lib.hid hB1
        clear hR1 hB1 hg1 hat1
        go_wp2
        go_roundw
        case rel => exact ⟨k + 1, by omega, by go_num, HR1, HB1⟩
        case measure => simp [intOf]; omega
    · obtain rfl : k = many := by omega
      go_wp2
      go_ret
      exact ⟨_, rfl, hR.out, hB.out⟩

theorem jlist_none (q : Nat) (w : World) (c2 : w.cell? ⟨q, 2, none⟩ = some (.int .i64 0)) :
    Calls Try.prog 64 #[.pointer (some ⟨q, 0, none⟩)] w fun e w' => e = .returned (.slice none 0 0) ∧ w = w' := by
  go_enter Try.func64, Try.ntmps64
  go_wp2_with fail
  refine (jlen_ok q 0 w c2).mono ?_
  rintro e w1 ⟨rfl, rfl⟩
  go_wp2
  go_loop [3, 7] (fun v i => v = .slice none 0 0 ∧ i = .int .i64 0) (fun _ _ => 0)
  case atStart => exact ⟨rfl, rfl⟩
  case round =>
    obtain ⟨rfl, rfl⟩ := hrel
    go_wp2
    go_ret
    exact ⟨rfl, rfl⟩

end Go.Proofs.Ytdilediiofenmaa

set_option linter.unusedVariables false
set_option linter.unusedSimpArgs false
namespace Go.Proofs.Ytdilediiofenmaa
open Go.RowKit
open Go.Proofs.YtdilediiofenmaaW.PrintWords (Kd Drawn0 Kept rd rdOf)
open Go.Proofs.Ytdilediiofenmaa.PSlackRuns
set_option maxRecDepth 100000

theorem box_cells {W : World} {b : Nat} {x : Jb} (h : W.heap[b]? = some (.cells #[.int .i64 x.f0, .int .i64 x.f1, .int .i64 x.f2, .int .i64 x.f3] 32 (0, 0))) :
    W.cell? ⟨b, 0, none⟩ = some (.int .i64 x.f0) ∧ W.cell? ⟨b, 1, none⟩ = some (.int .i64 x.f1) ∧ W.cell? ⟨b, 2, none⟩ = some (.int .i64 x.f2) ∧ W.cell? ⟨b, 3, none⟩ = some (.int .i64 x.f3) := by
  simp [World.cell?, h]

set_option maxHeartbeats 1000000 in
theorem jpush_room (q g n cap first many lim : Nat) (rs : List Jb) (x : Jb) (w : World) (h : JQ w q g n cap first many lim rs) (hm : many < n) :
    Calls Try.prog 63 #[.pointer (some ⟨q, 0, none⟩), .agg #[.int .i64 x.f0, .int .i64 x.f1, .int .i64 x.f2, .int .i64 x.f3]] w fun e w' => e = .returned .nilIface ∧ JQ w' q g n cap first (many + 1) lim (rs.set ((first + many) % n) x) ∧ Chg (fun k => k = q ∨ k = g) w w' := by
  have hq0 := h.lt
  have hgw := h.ltg
  obtain ⟨bq, hbq⟩ : ∃ b, b = w.heap.size := ⟨_, rfl⟩
  obtain ⟨wa, hwa⟩ : ∃ y, y = w.alloc (.cells #[.int .i64 x.f0, .int .i64 x.f1, .int .i64 x.f2, .int .i64 x.f3] 32) := ⟨_, rfl⟩
  have hbx : wa.heap[bq]? = some (.cells #[.int .i64 x.f0, .int .i64 x.f1, .int .i64 x.f2, .int .i64 x.f3] 32 (0, 0)) := by rw [hwa, hbq]; exact heap_alloc_new w _
  have xa : Chg (fun _ => False) w wa := by rw [hwa]; exact (Chg.refl _ w).alloc _
  have hsa : wa.heap.size = w.heap.size + 1 := by rw [hwa]; simp
  replace h := h.chgA xa
  have HBX := Lib.hid hbx
  have XA := Lib.hid xa
  have HWA := Lib.hid hwa
  have HBQ := Lib.hid hbq
  clear hbx xa hwa hbq
  have c0 := h.c0
  have c2 := h.c2
  have L := jroom_ok q many lim wa h.c2 h.c3 (by have := h.n_le; omega) h.lim_le
  have b4 : lim ≤ 4096 := h.lim_le
  have b3 : n ≤ lim := h.n_le
  have HH := Lib.hid h
  clear h
  have t0 : ((((lim - many : Nat) : Int)) == 0) = false := by simp; omega
  have t1 : ((many : Int) == (n : Int)) = false := by simp; omega
  go_enter Try.func63, Try.ntmps63
  go_wp2_with fail
  rw [← HWA.out, ← HBQ.out]
  refine L.mono ?_
  rintro e w1 ⟨rfl, rfl⟩
  go_wp2_with fail
  go_quiet (fail)
  obtain ⟨w1, hw1⟩ : ∃ x, x = wa.drewN nq := ⟨_, rfl⟩
  rw [← hw1]
  have H1 := HH.out.heap (w' := w1) (by rw [hw1]; rfl)
  have X1 : Chg (fun k => k = q ∨ k = g) wa w1 := by rw [hw1]; exact (Chg.refl _ wa).drewN nq
  clear c0 c2 hw1
  have c0 := H1.c0
  have c2 := H1.c2
  obtain ⟨j, hj⟩ : ∃ j, j = (first + many) % n := ⟨_, rfl⟩
  have hjn : j < n := by rw [hj]; exact Nat.mod_lt _ (by omega)
  obtain ⟨y, hy, hd⟩ := H1.at many
  rw [← hj] at hy
  obtain ⟨x0, x1, x2, x3⟩ := H1.cells hy
  obtain ⟨f0, f1, f2, f3⟩ := H1.frozen hy
  have A := H1.at_any many (by omega)
  rw [← hj] at A
  have HA := Lib.hid A
  have HJ := Lib.hid hj
  have HH1 := Lib.hid H1
  obtain ⟨v0, v1, v2, v3⟩ := box_cells (X1.heap HBX.out (by show ¬ (bq = q ∨ bq = g); have := HBQ.out; have := HH.out.ltg; have hg := hgw; omega))
  clear A hj hd hy H1
  go_wp2_with fail
  go_region_law (first
    | (go_simp; go_at_call 84; refine (HA.out (World.drew w1) rfl).mono ?_; rintro e w' ⟨rfl, d, rfl⟩))
  all_goals
    obtain ⟨w2, hw2⟩ : ∃ y, y = ((((w1.drewN (1 + d)).setCell ⟨g, j * 4, none⟩ (.int .i64 x.f0)).setCell ⟨g, j * 4 + 1, none⟩ (.int .i64 x.f1)).setCell ⟨g, j * 4 + 2, none⟩ (.int .i64 x.f2)).setCell ⟨g, j * 4 + 3, none⟩ (.int .i64 x.f3) := ⟨_, rfl⟩
    rw [← hw2]
    have H2 : JQ w2 q g n cap first many lim (rs.set j x) := by
      rw [hw2]; exact (HH1.out.heap (w' := w1.drewN (1 + d)) rfl).set hjn x
    have X2 : Chg (fun k => k = q ∨ k = g) wa w2 := by rw [hw2]; exact ((((X1.drewN _).setCell _ _ (.inr rfl)).setCell _ _ (.inr rfl)).setCell _ _ (.inr rfl)).setCell _ _ (.inr rfl)
    clear c0 c2 x0 x1 x2 x3 f0 f1 f2 f3 hw2
    have c2 := H2.c2
    have z2 := H2.fz 2
    have HH2 := Lib.hid H2
    clear H2
    go_wp2
    go_ret
    refine ⟨rfl, ?_, (XA.out.mono (fun _ _ f => f.elim)).trans (X2.setCell _ _ (.inl rfl))⟩
    rw [← HJ.out]
    exact HH2.out.set2 (many + 1) (by omega)

end Go.Proofs.Ytdilediiofenmaa

set_option linter.unusedVariables false
set_option linter.unusedSimpArgs false
namespace Go.Proofs.Ytdilediiofenmaa
open Go.RowKit
open Go.Proofs.YtdilediiofenmaaW.PrintWords (Kd Drawn0 Kept rd rdOf)
open Go.Proofs.Ytdilediiofenmaa.PSlackRuns
set_option maxRecDepth 100000

/-- copy into an owned row, elements of any size. -/
theorem run_copy_rowN {P : Program} (w : World) (dT sT ty elem : TypeId) (g o dLen dCap : Nat) (a : Addr) (sLen sCap : Nat) (cur : Array Value) (t : TypeId) (cs : List Value) (sz m : Nat)
    (hu : P.underlying dT = some (.slice elem)) (hs : (P.info? elem).map (·.size) = some sz)
    (hg : w.heap[g]? = some (.cells cur t (0, 0))) (hm : m = Nat.min sLen dLen) (hn : cs.length = m * sz)
    (hsrc : ∀ j v, cs[j]? = some v → w.cell? (a.add j) = some v) (hfit : o + cs.length ≤ cur.size) (h1 : ∀ v ∈ cs, v.oneCell' = true) :
    (Builtin.copy_ #[dT, sT] ty #[.slice (some ⟨g, o, none⟩) dLen dCap, .slice (some a) sLen sCap]).run P w =
      .ok (goInt m) (w.setRow g (cur.toList.take o ++ cs ++ cur.toList.drop (o + cs.length)).toArray) := by
  have hl := run_loadCells_list (P := P) w a cs hsrc
  have hst := run_storeCells_at P g o t cs 0 cur w hg (by simpa using hfit) h1
  cases hq : P.info? elem with
  | none => simp [hq] at hs
  | some i =>
    have hi : i.size = sz := by simpa [hq] using hs
    simp [Builtin.copy_, run_underlying hu, Builtin.lenOf, Builtin.firstCells, sizeOf, typeInfo, hq, hi, ← hm, ← hn, hl, hst]
theorem wpList_copy_ownN {P : Program} {w : World} {ops : Array Oper} {rest : List Oper} {o : Oper} {a : Act} {Q : Exit → Act → World → Prop} (hgd : o.guard = none) (d s : Operand) (dT sT : TypeId)
    (ho : o.op = .call { callee := .builtin .copy, args := #[d, s], argTypes := #[dT, sT] }) (elem : TypeId) (hu : P.underlying dT = some (.slice elem)) (sz m : Nat) (hsz : (P.info? elem).map (·.size) = some sz)
    (g off dLen dCap : Nat) (ad : Addr) (sLen sCap : Nat) (hd : a.eval d = .slice (some ⟨g, off, none⟩) dLen dCap) (hs : a.eval s = .slice (some ad) sLen sCap)
    (cur : Array Value) (t : TypeId) (hg : w.heap[g]? = some (.cells cur t (0, 0))) (cs : List Value) (hm : m = Nat.min sLen dLen) (hn : cs.length = m * sz)
    (hsrc : ∀ j v, cs[j]? = some v → w.cell? (ad.add j) = some v) (hfit : off + cs.length ≤ cur.size) (h1 : ∀ v ∈ cs, v.oneCell' = true)
    (h : wpList P ops Q rest (a.put o.dst (goInt m)) (w.setRow g (cur.toList.take off ++ (cs ++ cur.toList.drop (off + cs.length))).toArray)) : wpList P ops Q (o :: rest) a w := by
  refine wpList_plain hgd fun K hK => ?_
  have hrun := run_copy_rowN (P := P) w dT sT o.type elem g off dLen dCap ad sLen sCap cur t cs sz m hu hsz hg hm hn hsrc hfit h1
  unfold Oper.wp
  simp [execOp, ho, resolve, invoke, builtin, hd, hs, hrun, Result.andThen]
  exact hK _ _ h

/-- Jobs laid cell by cell. -/
def flatJ (xs : List Jb) : List Value := xs.flatMap cJ
theorem flatJ_len : ∀ xs : List Jb, (flatJ xs).length = xs.length * 4
  | [] => rfl
  | x :: xs => by simp [flatJ, List.flatMap_cons] at *; have := flatJ_len xs; simp [flatJ] at this; omega
theorem flatJ_one (xs : List Jb) : ∀ v ∈ flatJ xs, v.oneCell' = true := by
  intro v hv
  simp only [flatJ, List.mem_flatMap] at hv
  obtain ⟨x, -, hx⟩ := hv
  simp at hx
  rcases hx with rfl | rfl | rfl | rfl <;> rfl
/-- The row of jobs, cell by cell. -/
theorem kJ_inner {w : World} {base e : Nat} {ok : Nat → Prop} {v : Value} {xs : List Jb} (h : kJ.R e w base ok v xs) : w.ownsRow base e 4 v xs.length (flatJ xs) := by
  obtain ⟨_, inner, ho, hr⟩ := h
  have key : ∀ (ps : List Jb) (cs : List Value), cs.length = ps.length * 4 → (∀ (j : Nat) (p : Jb), ps[j]? = some p → (cs.drop (j * 4)).take 4 = cJ p) → cs = flatJ ps := by
    intro ps
    induction ps with
    | nil => intro cs hl _; exact List.eq_nil_of_length_eq_zero (by simpa using hl)
    | cons p ps ih =>
      intro cs hl hc
      have h0 := hc 0 p rfl
      simp only [Nat.zero_mul, List.drop_zero] at h0
      have hd := ih (cs.drop 4) (by simp at hl ⊢; omega) (fun j q hq => by
        have := hc (j + 1) q (by simpa using hq)
        rw [List.drop_drop]
        rw [show 4 + j * 4 = (j + 1) * 4 by omega]
        exact this)
      have : cs = cs.take 4 ++ cs.drop 4 := (List.take_append_drop 4 cs).symm
      rw [this, h0, hd]
      rfl
  have e2 : inner = flatJ xs := key xs inner hr.1 (fun j p hp => k32_openM (hr.2 j p hp))
  rw [e2] at ho
  exact ho
theorem kJ_of_own {w : World} {base e : Nat} {ok : Nat → Prop} {v : Value} {xs : List Jb} (ho : w.ownsRow base e 4 v xs.length (flatJ xs)) (hok : ∀ k, v.ownBlock = some k → ok k) : kJ.R e w base ok v xs := by
  refine ⟨hok, flatJ xs, ho, ⟨flatJ_len xs, ?_⟩⟩
  have key : ∀ (ps : List Jb) (j : Nat) (p : Jb), ps[j]? = some p → ((flatJ ps).drop (j * 4)).take 4 = cJ p := by
    intro ps
    induction ps with
    | nil => intro j p hp; simp at hp
    | cons x ps ih =>
      intro j p hp
      cases j with
      | zero => simp at hp; subst hp; rfl
      | succ j =>
        have e : flatJ (x :: ps) = cJ x ++ flatJ ps := rfl
        rw [e, show (j + 1) * 4 = (cJ x).length + j * 4 by simp; omega, List.drop_length_add_append]
        exact ih j p (by simpa using hp)
  intro j p hp
  show kJ.M w base _ p (((flatJ xs).drop (j * 4)).take 4)
  rw [key xs j p hp]
  exact k32_mkM _ _ _ _
theorem jl_grow {xs : List Jb} {n n' : Nat} (x : Jb) (hA : xs.length = n) (hl : n < n') : jl ((xs ++ List.replicate (n' - n) zJ).set n x) n' 0 (n + 1) = xs ++ [x] := by
  apply List.ext_getElem?
  intro i
  have hlen : (xs ++ List.replicate (n' - n) zJ).length = n' := by simp; omega
  by_cases h1 : i < n
  · have h2 : i % n' = i := Nat.mod_eq_of_lt (by omega)
    simp [jl, List.getElem?_map, List.getElem?_range, show i < n + 1 by omega, h2, List.getElem?_set, show n ≠ i by omega, List.getElem?_append, show i < xs.length by omega]
  · by_cases h3 : i = n
    · subst h3
      have h2 : i % n' = i := Nat.mod_eq_of_lt (by omega)
      have h4 : i < (xs ++ List.replicate (n' - i) zJ).length := by omega
      simp [jl, List.getElem?_map, List.getElem?_range, h2, hA, List.getElem?_append_right, List.getElem?_set, hl]
      rw [if_pos (by omega)]; rfl
    · rw [List.getElem?_eq_none (by rw [jl_length]; omega), List.getElem?_eq_none (by simp; omega)]

end Go.Proofs.Ytdilediiofenmaa

set_option linter.unusedVariables false
set_option linter.unusedSimpArgs false
namespace Go.Proofs.Ytdilediiofenmaa
open Go.RowKit
open Go.Proofs.YtdilediiofenmaaW.PrintWords (Kd Drawn0 Kept rd rdOf)
open Go.Proofs.Ytdilediiofenmaa.PSlackRuns
set_option maxRecDepth 100000

/-- What copy leaves of a new row. -/
theorem kJ_copied {w : World} {g n' cap : Nat} {xs : List Jb} (h : kJ.R 32 w 0 (fun _ => True) (.slice (some ⟨g, 0, none⟩) n' cap) (List.replicate n' zJ)) (hl : xs.length ≤ n') :
    ∃ cur, w.heap[g]? = some (.cells cur 32 (0, 0)) ∧ (flatJ xs).length ≤ cur.size ∧
      kJ.R 32 (w.setRow g (cur.toList.take 0 ++ (flatJ xs ++ cur.toList.drop (0 + (flatJ xs).length))).toArray) 0 (fun k => k = g) (.slice (some ⟨g, 0, none⟩) n' cap) (xs ++ List.replicate (n' - xs.length) zJ) := by
  have hown := kJ_inner h
  simp only [List.length_replicate] at hown
  rcases hown.2 with ⟨h', _⟩ | ⟨g', cap', cur, h', hb, hg, hnc, hcm, hcs, htake⟩
  · simp at h'
  · simp only [Value.slice.injEq, Option.some.injEq, Addr.mk.injEq, and_true, true_and] at h'
    obtain ⟨rfl, rfl⟩ := h'
    have hfl := flatJ_len xs
    have hmul : n' * 4 ≤ cap * 4 := Nat.mul_le_mul_right _ hnc
    refine ⟨cur, hg, by omega, kJ_of_own ⟨flatJ_len _, .inr ⟨g, cap, _, ?_, Nat.zero_le _, setRow_heap _ _ _ _ _ _ hg, ?_, hcm, ?_, ?_⟩⟩ (fun k hk => by simp [Value.ownBlock] at hk; exact hk.symm)⟩
    · simp; omega
    · simp; omega
    · simp; omega
    · have e1 : flatJ (xs ++ List.replicate (n' - xs.length) zJ) = flatJ xs ++ flatJ (List.replicate (n' - xs.length) zJ) := by simp [flatJ]
      have e2 : flatJ (List.replicate n' zJ) = flatJ (List.replicate xs.length zJ) ++ flatJ (List.replicate (n' - xs.length) zJ) := by
        have e : List.replicate n' zJ = List.replicate xs.length zJ ++ List.replicate (n' - xs.length) zJ := by rw [List.replicate_append_replicate, show xs.length + (n' - xs.length) = n' by omega]
        rw [e]
        unfold flatJ
        exact List.flatMap_append
      have e3 : (xs ++ List.replicate (n' - xs.length) zJ).length = n' := by simp; omega
      rw [e3, e1]
      have e4 : (cur.toList.take (n' * 4)).drop (xs.length * 4) = flatJ (List.replicate (n' - xs.length) zJ) := by
        rw [htake, e2]
        rw [show xs.length * 4 = (flatJ (List.replicate xs.length zJ)).length by rw [flatJ_len]; simp]
        exact List.drop_left
      simp only [List.take_zero, List.nil_append, Nat.zero_add, List.toList_toArray]
      rw [List.take_append, List.take_of_length_le (by omega), hfl, ← e4, List.drop_take]

set_option maxHeartbeats 2000000 in
theorem jpush_grow (q g n cap first lim : Nat) (rs : List Jb) (x : Jb) (w : World) (h : JQ w q g n cap first n lim rs) (hm : n < lim) :
    Calls Try.prog 63 #[.pointer (some ⟨q, 0, none⟩), .agg #[.int .i64 x.f0, .int .i64 x.f1, .int .i64 x.f2, .int .i64 x.f3]] w fun e w' => e = .returned .nilIface ∧ ∃ g' n' cap' rs',
      JQ w' q g' n' cap' 0 (n + 1) lim rs' ∧ jl rs' n' 0 (n + 1) = jl rs n first n ++ [x] ∧ w.heap.size ≤ g' ∧ Chg (fun k => k = q) w w' := by
  have hq0 := h.lt
  obtain ⟨bq, hbq⟩ : ∃ b, b = w.heap.size := ⟨_, rfl⟩
  obtain ⟨wa, hwa⟩ : ∃ y, y = w.alloc (.cells #[.int .i64 x.f0, .int .i64 x.f1, .int .i64 x.f2, .int .i64 x.f3] 32) := ⟨_, rfl⟩
  have hbx : wa.heap[bq]? = some (.cells #[.int .i64 x.f0, .int .i64 x.f1, .int .i64 x.f2, .int .i64 x.f3] 32 (0, 0)) := by rw [hwa, hbq]; exact heap_alloc_new w _
  have xa : Chg (fun _ => False) w wa := by rw [hwa]; exact (Chg.refl _ w).alloc _
  have hsa : wa.heap.size = w.heap.size + 1 := by rw [hwa]; simp
  replace h := h.chgA xa
  have HBX := Lib.hid hbx
  have XA := Lib.hid xa
  have HWA := Lib.hid hwa
  have HBQ := Lib.hid hbq
  clear hbx xa hwa hbq
  have c0 := h.c0
  have c2 := h.c2
  have c3 := h.c3
  have L := jroom_ok q n lim wa h.c2 h.c3 (by omega) h.lim_le
  have b4 : lim ≤ 4096 := h.lim_le
  have hn0 : 0 < n := by have := h.f_lt; omega
  have HH := Lib.hid h
  clear h
  have t0 : ((((lim - n : Nat) : Int)) == 0) = false := by simp; omega
  go_enter Try.func63, Try.ntmps63
  go_wp2_with fail
  rw [← HWA.out, ← HBQ.out]
  refine L.mono ?_
  rintro e w1 ⟨rfl, rfl⟩
  go_wp2_with fail
  go_quiet (fail)
  obtain ⟨w1, hw1⟩ : ∃ x, x = wa.drewN nq := ⟨_, rfl⟩
  rw [← hw1]
  have H7 := HH.out.heap (w' := w1) (by rw [hw1]; rfl)
  have X1 : Chg (fun k => k = q) wa w1 := by rw [hw1]; exact (Chg.refl _ wa).drewN nq
  clear c0 c2 c3 hw1
  have c0 := H7.c0
  have c2 := H7.c2
  have c3 := H7.c3
  have HH1 := Lib.hid H7
  clear H7
  go_wp2_with fail
  go_still_tail 11, (by kernel_rfl)
  change wpList _ _ _ _ _ w1.drew
  have W1 : IntKind.i64.wrap (2 * (n : Int)) = 2 * n := IntWalk.i64_in _ (by omega)
  have W2 : IntKind.i64.wrap (2 * (n : Int) + 1) = 2 * n + 1 := IntWalk.i64_in _ (by omega)
  obtain ⟨n', hn', l1, l2⟩ : ∃ n' : Nat, (if 2 * (n : Int) + 1 < (lim : Int) then 2 * (n : Int) + 1 else (lim : Int)) = (n' : Int) ∧ n < n' ∧ n' ≤ lim := by
    by_cases h : 2 * n + 1 < lim
    · exact ⟨2 * n + 1, by rw [if_pos (by omega)]; omega, by omega, by omega⟩
    · exact ⟨lim, by rw [if_neg (by omega)], by omega, by omega⟩
  simp only [W1, W2, hn']
  clear W1 W2 hn'
  refine Kd.R_make kJ (w0 := w1) w1.heap.size 32 rfl rfl 52 (.tmp 30) (.tmp 30) rfl (n' : Int) rfl rfl Try.underlying52 (.agg #[.int .i64 0, .int .i64 0, .int .i64 0, .int .i64 0]) 32 infoJ rfl (by decide) (by omega) zJ (ok := fun _ => True) (okp := fun _ => False) (k32_mkM _ _ _ _) (fun _ f => f.elim) trivial (by omega) (by simp; omega) (Below.drew (Below.refl _ _)) (Nat.le_refl _) ?_
  intro v2 w2 hR2 hB2 hg2 hat2
  rw [Int.toNat_natCast] at hR2
  obtain ⟨g1, cap1, rfl, hg1b, hg1l, -⟩ := Kd.R_form hR2 (by simp; omega)
  rw [List.length_replicate] at hR2 ⊢
  have X2 : Chg (fun k => k = q) wa w2 := X1.trans (Chg.ofBelow hB2 _)
  have H2 := HH1.out.below hB2
  have L2 := jlist_some q g n cap first n lim rs w2 H2
  have HH2 := Lib.hid H2
  have HR2 := Lib.hid hR2
  have hq1 : q < w1.heap.size := HH1.out.lt
  have hg1q : g < w1.heap.size := HH1.out.ltg
  clear H2 c0 c2 c3 hR2 hB2 hg2 hat2
  go_wp2_with fail
  refine L2.mono ?_
  rintro e w3 ⟨v, rfl, hR3, hb3⟩
  have hjl : (jl rs n first n).length = n := jl_length _ _ _ _
  obtain ⟨g2, cp2, rfl, -, -, -⟩ := Kd.R_form hR3 (by omega)
  obtain ⟨cur, hg3, hcs, hR4⟩ := kJ_copied (xs := jl rs n first n) (Kd.R_lower (Kd.R_mono (Kd.R_below HR2.out hb3) (fun _ _ => trivial)) (Nat.zero_le _)) (by omega)
  have hQ3 := HH2.out.below hb3
  have X3 := X2.trans (Chg.ofBelow hb3 _)
  have hsrc : ∀ j u, (flatJ (jl rs n first n))[j]? = some u → w3.cell? ((⟨g2, 0, none⟩ : Addr).add j) = some u := (kJ_inner hR3).cells rfl
  have HS := Lib.hid hsrc
  have H1C := Lib.hid (flatJ_one (jl rs n first n))
  obtain ⟨w4, hw4⟩ : ∃ y, y = w3.setRow g1 (cur.toList.take 0 ++ (flatJ (jl rs n first n) ++ cur.toList.drop (0 + (flatJ (jl rs n first n)).length))).toArray := ⟨_, rfl⟩
  rw [← hw4] at hR4
  have X4 : Chg (fun k => k = q) wa w4 := ⟨by rw [hw4]; exact X3.os, by rw [hw4]; exact X3.tape, by rw [hw4]; exact X3.output, by rw [hw4]; simpa using X3.size, fun k hk hn => by
    have := X1.size
    rw [hw4, setRow_other w3 g1 k _ (by omega)]
    exact X3.block k hk hn⟩
  have hQ4 : JQ w4 q g n cap first n lim rs := by
    refine hQ3.chg (S := fun k => k = g1) ⟨by rw [hw4]; rfl, by rw [hw4]; rfl, by rw [hw4]; rfl, by rw [hw4]; simp, fun k hk hn => by rw [hw4, setRow_other _ _ _ _ hn]⟩ (fun e => by have e' : q = g1 := e; omega) (fun e => by have e' : g = g1 := e; omega)
  have c0 := hQ4.c0
  have c1 := hQ4.c1
  have z0 := hQ4.fz 0
  have z1 := hQ4.fz 1
  have HW4 := Lib.hid hw4
  have HR4 := Lib.hid hR4
  have HQ4 := Lib.hid hQ4
  have HX3 := Lib.hid hjl
  rw [hjl] at hR3 ⊢
  clear hw4 hQ4 hR4 hsrc hR3 hQ3 HH2 HR2 hb3 hjl
  go_wp2_with (refine wpList_copy_ownN rfl (.tmp 32) (.tmp 34) 52 52 rfl 32 Try.underlying52 4 n (by kernel_rfl) g1 0 n' cap1 ⟨g2, 0, none⟩ n cp2 rfl rfl cur 32 hg3 (flatJ (jl rs n first n)) (Nat.min_eq_left (by omega)).symm (by rw [flatJ_len, HX3.out]) HS.out (by omega) H1C.out ?_; rw [← HW4.out])
  obtain ⟨w5, hw5⟩ : ∃ y, y = (w4.setCell ⟨q, 0, none⟩ (.slice (some ⟨g1, 0, none⟩) n' cap1)).setCell ⟨q, 1, none⟩ (.int .i64 0) := ⟨_, rfl⟩
  rw [← hw5]
  have H5 : JQ w5 q g1 n' cap1 0 n lim (jl rs n first n ++ List.replicate (n' - n) zJ) := by
    have hr := HR4.out
    rw [HX3.out] at hr
    rw [hw5]; exact JQ.ring0 HQ4.out.blk n rfl hr (by omega) (by omega) (by omega) l2 b4
  have X5 : Chg (fun k => k = q) wa w5 := by rw [hw5]; exact (X4.setCell _ _ rfl).setCell _ _ rfl
  clear hw5 c0 c1 z0 z1
  have c0 := H5.c0
  have c2 := H5.c2
  obtain ⟨y, hy, hd⟩ := H5.at n
  have e0 : (0 + n) % n' = n := by rw [Nat.zero_add]; exact Nat.mod_eq_of_lt l1
  rw [e0] at hy
  obtain ⟨x0, x1, x2, x3⟩ := H5.cells hy
  obtain ⟨f0, f1, f2, f3⟩ := H5.frozen hy
  have A := H5.at_any n (by omega)
  rw [e0] at A
  have HA := Lib.hid A
  have HH5 := Lib.hid H5
  obtain ⟨v0, v1, v2, v3⟩ := box_cells (X5.heap HBX.out (by show ¬ bq = q; have := HBQ.out; omega))
  clear A H5 hcs hg3 hy hd e0
  go_wp2_with fail
  go_region_law (first
    | (go_simp; go_at_call 84; refine (HA.out (World.drew w5) rfl).mono ?_; rintro e w' ⟨rfl, d, rfl⟩))
  all_goals
    obtain ⟨w6, hw6⟩ : ∃ y, y = ((((w5.drewN (1 + d)).setCell ⟨g1, n * 4, none⟩ (.int .i64 x.f0)).setCell ⟨g1, n * 4 + 1, none⟩ (.int .i64 x.f1)).setCell ⟨g1, n * 4 + 2, none⟩ (.int .i64 x.f2)).setCell ⟨g1, n * 4 + 3, none⟩ (.int .i64 x.f3) := ⟨_, rfl⟩
    rw [← hw6]
    have H6 : JQ w6 q g1 n' cap1 0 n lim ((jl rs n first n ++ List.replicate (n' - n) zJ).set n x) := by
      rw [hw6]; exact (HH5.out.heap (w' := w5.drewN (1 + d)) rfl).set l1 x
    have X6 : Chg (fun k => k = q) wa w6 := by
      have s1 := X1.size
      rw [hw6]
      exact ⟨X5.os, X5.tape, X5.output, by simpa using X5.size, fun k hk hn => by
        rw [heap_setCell_other _ _ _ _ (show k ≠ g1 by omega), heap_setCell_other _ _ _ _ (show k ≠ g1 by omega), heap_setCell_other _ _ _ _ (show k ≠ g1 by omega), heap_setCell_other _ _ _ _ (show k ≠ g1 by omega)]
        exact X5.block k hk hn⟩
    clear c0 c2 x0 x1 x2 x3 f0 f1 f2 f3 hw6
    have c2 := H6.c2
    have z2 := H6.fz 2
    have HH6 := Lib.hid H6
    have s1 := X1.size
    clear H6
    go_wp2
    go_ret
    exact ⟨rfl, g1, n', cap1, _, HH6.out.set2 (n + 1) (by omega), jl_grow x HX3.out l1, by omega, (XA.out.mono (fun _ _ f => f.elim)).trans (X6.setCell _ _ rfl)⟩

end Go.Proofs.Ytdilediiofenmaa

set_option linter.unusedVariables false
set_option linter.unusedSimpArgs false
namespace Go.Proofs.Ytdilediiofenmaa
open Go.RowKit
open Go.Proofs.YtdilediiofenmaaW.PrintWords (Kd Drawn0 Kept rd rdOf)
open Go.Proofs.Ytdilediiofenmaa.PSlackRuns
set_option maxRecDepth 100000

theorem wpList_copy_nilN {P : Program} {w : World} {ops : Array Oper} {rest : List Oper} {o : Oper} {a : Act} {Q : Exit → Act → World → Prop} (hgd : o.guard = none) (d s : Operand) (dT sT : TypeId)
    (ho : o.op = .call { callee := .builtin .copy, args := #[d, s], argTypes := #[dT, sT] }) (elem : TypeId) (hu : P.underlying dT = some (.slice elem)) (hsz : ((P.info? elem).map (·.size)).isSome = true)
    (ad : Addr) (dLen dCap : Nat) (hd : a.eval d = .slice (some ad) dLen dCap) (hs : a.eval s = .slice none 0 0)
    (h : wpList P ops Q rest (a.put o.dst (goInt 0)) w) : wpList P ops Q (o :: rest) a w := by
  refine wpList_plain hgd fun K hK => ?_
  have hrun := run_copy_nil (P := P) w dT sT o.type elem ad dLen dCap hu hsz
  unfold Oper.wp
  simp [execOp, ho, resolve, invoke, builtin, hd, hs, hrun, Result.andThen]
  exact hK _ _ h
theorem kJ_g {w : World} {base g n cap : Nat} {ok : Nat → Prop} {xs : List Jb} (h : kJ.R 32 w base ok (.slice (some ⟨g, 0, none⟩) n cap) xs) : kJ.R 32 w 0 (fun k => k = g) (.slice (some ⟨g, 0, none⟩) n cap) xs :=
  kJ_of_own (kJ_inner (Kd.R_lower h (Nat.zero_le _))) (fun k hk => by simp [Value.ownBlock] at hk; exact hk.symm)

set_option maxHeartbeats 2000000 in
theorem jpush_first (q lim : Nat) (x : Jb) (w : World) (h : JN w q lim) (hm : 0 < lim) :
    Calls Try.prog 63 #[.pointer (some ⟨q, 0, none⟩), .agg #[.int .i64 x.f0, .int .i64 x.f1, .int .i64 x.f2, .int .i64 x.f3]] w fun e w' => e = .returned .nilIface ∧ ∃ g' n' cap' rs',
      JQ w' q g' n' cap' 0 1 lim rs' ∧ jl rs' n' 0 1 = [x] ∧ w.heap.size ≤ g' ∧ Chg (fun k => k = q) w w' := by
  have hq0 := h.lt
  obtain ⟨bq, hbq⟩ : ∃ b, b = w.heap.size := ⟨_, rfl⟩
  obtain ⟨wa, hwa⟩ : ∃ y, y = w.alloc (.cells #[.int .i64 x.f0, .int .i64 x.f1, .int .i64 x.f2, .int .i64 x.f3] 32) := ⟨_, rfl⟩
  have hbx : wa.heap[bq]? = some (.cells #[.int .i64 x.f0, .int .i64 x.f1, .int .i64 x.f2, .int .i64 x.f3] 32 (0, 0)) := by rw [hwa, hbq]; exact heap_alloc_new w _
  have xa : Chg (fun _ => False) w wa := by rw [hwa]; exact (Chg.refl _ w).alloc _
  have hsa : wa.heap.size = w.heap.size + 1 := by rw [hwa]; simp
  replace h := h.chgA xa
  have HBX := Lib.hid hbx
  have XA := Lib.hid xa
  have HWA := Lib.hid hwa
  have HBQ := Lib.hid hbq
  clear hbx xa hwa hbq
  have c0 := h.c0
  have c2 := h.c2
  have c3 := h.c3
  have L := jroom_ok q 0 lim wa h.c2 h.c3 (by omega) h.lim_le
  have b4 : lim ≤ 4096 := h.lim_le
  have HH := Lib.hid h
  clear h
  have t0 : (((lim - 0 : Nat) : Int) == 0) = false := by simp; omega
  go_enter Try.func63, Try.ntmps63
  go_wp2_with fail
  rw [← HWA.out, ← HBQ.out]
  refine L.mono ?_
  rintro e w1 ⟨rfl, rfl⟩
  go_wp2_with fail
  go_quiet (fail)
  obtain ⟨w1, hw1⟩ : ∃ x, x = wa.drewN nq := ⟨_, rfl⟩
  rw [← hw1]
  have H7 := HH.out.heap (w' := w1) (by rw [hw1]; rfl)
  have X1 : Chg (fun k => k = q) wa w1 := by rw [hw1]; exact (Chg.refl _ wa).drewN nq
  clear c0 c2 c3 hw1
  have c0 := H7.c0
  have c2 := H7.c2
  have c3 := H7.c3
  have HH1 := Lib.hid H7
  clear H7
  go_wp2_with fail
  go_still_tail 11, (by kernel_rfl)
  change wpList _ _ _ _ _ w1.drew
  have W1 : IntKind.i64.wrap 0 = 0 := IntWalk.i64_in _ (by omega)
  have W2 : IntKind.i64.wrap ((0 : Int) + 1) = 1 := IntWalk.i64_in _ (by omega)
  obtain ⟨n', hn', l1, l2⟩ : ∃ n' : Nat, (if (1 : Int) < (lim : Int) then (1 : Int) else (lim : Int)) = (n' : Int) ∧ 0 < n' ∧ n' ≤ lim := by
    by_cases h : 1 < lim
    · exact ⟨1, by rw [if_pos (by omega)]; rfl, by omega, by omega⟩
    · exact ⟨lim, by rw [if_neg (by omega)], by omega, by omega⟩
  simp only [W1, W2, hn']
  clear W1 W2 hn'
  refine Kd.R_make kJ (w0 := w1) w1.heap.size 32 rfl rfl 52 (.tmp 30) (.tmp 30) rfl (n' : Int) rfl rfl Try.underlying52 (.agg #[.int .i64 0, .int .i64 0, .int .i64 0, .int .i64 0]) 32 infoJ rfl (by decide) (by omega) zJ (ok := fun _ => True) (okp := fun _ => False) (k32_mkM _ _ _ _) (fun _ f => f.elim) trivial (by omega) (by simp; omega) (Below.drew (Below.refl _ _)) (Nat.le_refl _) ?_
  intro v2 w2 hR2 hB2 hg2 hat2
  rw [Int.toNat_natCast] at hR2
  obtain ⟨g1, cap1, rfl, hg1b, hg1l, -⟩ := Kd.R_form hR2 (by simp; omega)
  rw [List.length_replicate] at hR2 ⊢
  have X2 : Chg (fun k => k = q) wa w2 := X1.trans (Chg.ofBelow hB2 _)
  have H2 := HH1.out.below hB2
  have L2 := jlist_none q w2 H2.c2
  have hq1 : q < w1.heap.size := HH1.out.lt
  have c0 := H2.c0
  have c1 := H2.c1
  have z0 := H2.fz 0
  have z1 := H2.fz 1
  have HH2 := Lib.hid H2
  have HR2 := Lib.hid hR2
  clear H2 c2 c3 hR2 hB2 hg2 hat2
  go_wp2_with fail
  refine L2.mono ?_
  rintro e w3 ⟨rfl, rfl⟩
  go_wp2_with (refine wpList_copy_nilN rfl (.tmp 32) (.tmp 34) 52 52 rfl 32 Try.underlying52 (by kernel_rfl) ⟨g1, 0, none⟩ n' cap1 rfl rfl ?_)
  obtain ⟨w5, hw5⟩ : ∃ y, y = (w2.setCell ⟨q, 0, none⟩ (.slice (some ⟨g1, 0, none⟩) n' cap1)).setCell ⟨q, 1, none⟩ (.int .i64 0) := ⟨_, rfl⟩
  rw [← hw5]
  have hgq : g1 ≠ q := by omega
  have H5 : JQ w5 q g1 n' cap1 0 0 lim (List.replicate n' zJ) := by
    rw [hw5]; exact JQ.ring0 HH2.out.blk 0 rfl (kJ_g HR2.out) hgq (by omega) (by omega) l2 b4
  have X5 : Chg (fun k => k = q) wa w5 := by rw [hw5]; exact (X2.setCell _ _ rfl).setCell _ _ rfl
  clear hw5 c0 c1 z0 z1
  have c0 := H5.c0
  have c2 := H5.c2
  obtain ⟨y, hy, hd⟩ := H5.at 0
  have e0 : (0 + 0) % n' = 0 := by simp
  rw [e0] at hy
  obtain ⟨x0, x1, x2, x3⟩ := H5.cells hy
  obtain ⟨f0, f1, f2, f3⟩ := H5.frozen hy
  simp only [Nat.zero_mul, Nat.zero_add] at x0 x1 x2 x3 f0 f1 f2 f3
  have A := H5.at_any 0 (by omega)
  rw [e0] at A
  have HA := Lib.hid A
  have HH5 := Lib.hid H5
  obtain ⟨v0, v1, v2, v3⟩ := box_cells (X5.heap HBX.out (by show ¬ bq = q; have := HBQ.out; omega))
  clear A H5 hy hd e0
  go_wp2_with fail
  go_region_law (first
    | (go_simp; go_at_call 84; refine (HA.out (World.drew w5) rfl).mono ?_; rintro e w' ⟨rfl, d, rfl⟩))
  all_goals
    obtain ⟨w6, hw6⟩ : ∃ y, y = ((((w5.drewN (1 + d)).setCell ⟨g1, 0, none⟩ (.int .i64 x.f0)).setCell ⟨g1, 1, none⟩ (.int .i64 x.f1)).setCell ⟨g1, 2, none⟩ (.int .i64 x.f2)).setCell ⟨g1, 3, none⟩ (.int .i64 x.f3) := ⟨_, rfl⟩
    rw [← hw6]
    have H6 : JQ w6 q g1 n' cap1 0 0 lim ((List.replicate n' zJ).set 0 x) := by
      have h := (HH5.out.heap (w' := w5.drewN (1 + d)) rfl).set (i := 0) l1 x
      simp only [Nat.zero_mul, Nat.zero_add] at h
      rw [hw6]; exact h
    have X6 : Chg (fun k => k = q) wa w6 := by
      have s1 := X1.size
      rw [hw6]
      exact ⟨X5.os, X5.tape, X5.output, by simpa using X5.size, fun k hk hn => by
        rw [heap_setCell_other _ _ _ _ (show k ≠ g1 by omega), heap_setCell_other _ _ _ _ (show k ≠ g1 by omega), heap_setCell_other _ _ _ _ (show k ≠ g1 by omega), heap_setCell_other _ _ _ _ (show k ≠ g1 by omega)]
        exact X5.block k hk hn⟩
    clear c0 c2 x0 x1 x2 x3 f0 f1 f2 f3 hw6
    have c2 := H6.c2
    have z2 := H6.fz 2
    have HH6 := Lib.hid H6
    have s1 := X1.size
    clear H6
    go_wp2
    go_ret
    exact ⟨rfl, g1, n', cap1, _, HH6.out.set2 1 (by omega), by have := jl_grow (xs := []) x rfl l1; simpa using this, by omega, (XA.out.mono (fun _ _ f => f.elim)).trans (X6.setCell _ _ rfl)⟩

end Go.Proofs.Ytdilediiofenmaa

set_option linter.unusedVariables false
set_option linter.unusedSimpArgs false
namespace Go.Proofs.Ytdilediiofenmaa
open Go.RowKit
open Go.Proofs.YtdilediiofenmaaW.PrintWords (Kd Drawn0 Kept rd rdOf)
open Go.Proofs.Ytdilediiofenmaa.PSlackRuns
set_option maxRecDepth 100000

theorem jnew_ok (lim : Nat) (w : World) (h0 : 1 ≤ lim) (h1 : lim ≤ 4096) :
    Calls Try.prog 82 #[.int .i64 lim] w fun e w' => e = .returned (.tuple #[.pointer (some ⟨w.heap.size, 0, none⟩), .nilIface]) ∧ JN w' w.heap.size lim ∧ Below w.heap.size w w' := by
  have t0 : decide ((lim : Int) < 1) = false := by simp; omega
  have t1 : decide ((4096 : Int) < lim) = false := by simp; omega
  go_enter Try.func82, Try.ntmps82
  go_wp2_with fail
  go_ret2
  exact ⟨rfl, ⟨heap_alloc_new w _, h1⟩, (Below.refl _ w).alloc (Nat.le_refl _) _⟩

theorem box_frozen {W : World} {b : Nat} {x : Jb} (h : W.heap[b]? = some (.cells #[.int .i64 x.f0, .int .i64 x.f1, .int .i64 x.f2, .int .i64 x.f3] 32 (0, 0))) (i : Nat) : W.frozen? ⟨b, i, none⟩ = false := by
  simp [World.frozen?, h]
theorem heap_alloc_old (w : World) (o : Obj) {k : Nat} (hk : k < w.heap.size) : (w.alloc o).heap[k]? = w.heap[k]? := ((Below.refl w.heap.size w).alloc (Nat.le_refl _) o).block k hk

theorem jat_some (q g n cap first many lim i : Nat) (rs : List Jb) (x : Jb) (w : World) (h : JQ w q g n cap first many lim rs) (hm : i < many) (hx : rs[(first + i) % n]? = some x) :
    Calls Try.prog 88 #[.pointer (some ⟨q, 0, none⟩), .int .i64 i] w fun e w' => e = .returned (.tuple #[.agg #[.int .i64 x.f0, .int .i64 x.f1, .int .i64 x.f2, .int .i64 x.f3], .bool true]) ∧ Below w.heap.size w w' := by
  obtain ⟨W0, hW0⟩ : ∃ y, y = (w.alloc (.cells #[.int .i64 0, .int .i64 0, .int .i64 0, .int .i64 0] 32)).alloc (.cells #[.int .i64 0, .int .i64 0, .int .i64 0, .int .i64 0] 32) := ⟨_, rfl⟩
  have hB0 : Below w.heap.size w W0 := by rw [hW0]; exact ((Below.refl _ w).alloc (Nat.le_refl _) _).alloc (by simp) _
  have k4 : W0.heap[w.heap.size]? = some (.cells #[.int .i64 zJ.f0, .int .i64 zJ.f1, .int .i64 zJ.f2, .int .i64 zJ.f3] 32 (0, 0)) := by rw [hW0, heap_alloc_old _ _ (by simp)]; exact heap_alloc_new w _
  have k6 : W0.heap[w.heap.size + 1]? = some (.cells #[.int .i64 zJ.f0, .int .i64 zJ.f1, .int .i64 zJ.f2, .int .i64 zJ.f3] 32 (0, 0)) := by
    have := heap_alloc_new (w.alloc (.cells #[.int .i64 0, .int .i64 0, .int .i64 0, .int .i64 0] 32)) (.cells #[.int .i64 0, .int .i64 0, .int .i64 0, .int .i64 0] 32)
    rw [show (w.alloc (.cells #[.int .i64 0, .int .i64 0, .int .i64 0, .int .i64 0] 32)).heap.size = w.heap.size + 1 by simp] at this
    rw [hW0]; exact this
  obtain ⟨y0, y1, y2, y3⟩ := box_cells k4
  obtain ⟨z0, z1, z2, z3⟩ := box_cells k6
  have g0 := box_frozen k4 0
  have g1 := box_frozen k4 1
  have g2 := box_frozen k4 2
  have g3 := box_frozen k4 3
  have HW0 := Lib.hid hW0
  have HB0 := Lib.hid hB0
  clear k4 k6 hW0
  replace h := h.below hB0
  have c0 := h.c0
  have c2 := h.c2
  have HH := Lib.hid (jhas_t q i many W0 c2 (by omega) (by omega))
  obtain ⟨x0, x1, x2, x3⟩ := h.cells hx
  have B := h.at_any i (by have := h.many_le; omega)
  have hjn : (first + i) % n < n := Nat.mod_lt _ (by have := h.f_lt; omega)
  have b4 := h.small
  generalize (first + i) % n = j at x0 x1 x2 x3 B hjn
  have HB := Lib.hid B
  clear B h hx hm hB0
  go_enter Try.func88, Try.ntmps88
  go_wp2_with fail
  rw [← HW0.out]
  generalize hbw : w.heap.size = bw at *
  refine HH.out.mono ?_
  rintro e w1 ⟨rfl, rfl⟩
  go_wp2_with fail
  go_region_law (first
    | (go_simp; go_at_call 84; refine (HB.out (World.drew W0) rfl).mono ?_; rintro e w' ⟨rfl, d, rfl⟩))
  all_goals
    go_wp2
    refine bodyPost_ret (v := .tuple #[.agg #[.int .i64 x.f0, .int .i64 x.f1, .int .i64 x.f2, .int .i64 x.f3], .bool true]) (by simp [results, Try.results88, go_sem, y0, y1, y2, y3]) rfl ⟨rfl, ?_⟩
    rw [hbw]
    exact ((((below_drewN' HB0.out _).setCell (p := ⟨bw, 0, none⟩) (Nat.le_refl _) _).setCell (p := ⟨bw, 1, none⟩) (Nat.le_refl _) _).setCell (p := ⟨bw, 2, none⟩) (Nat.le_refl _) _).setCell (p := ⟨bw, 3, none⟩) (Nat.le_refl _) _

/-- A queue whose first job is the ring's first; its blocks are among S. -/
def JS (w : World) (q lim : Nat) (xs : List Jb) (S : Nat → Prop) : Prop :=
  (S q ∧ ∀ k, S k → k < w.heap.size) ∧ ((xs = [] ∧ JN w q lim) ∨ ∃ g n cap rs, JQ w q g n cap 0 xs.length lim rs ∧ jl rs n 0 xs.length = xs ∧ S g)
section
variable {w w' : World} {q lim : Nat} {xs : List Jb} {S : Nat → Prop}
theorem JS.chg (h : JS w q lim xs S) {T : Nat → Prop} (hc : Chg T w w') (hT : ∀ k, T k → ¬ S k) : JS w' q lim xs S := by
  have hn : ∀ k, S k → ¬ T k := fun k s t => hT k t s
  refine ⟨⟨h.1.1, fun k s => Nat.lt_of_lt_of_le (h.1.2 k s) hc.size⟩, h.2.imp (fun k => ⟨k.1, k.2.chg hc (hn _ h.1.1)⟩) ?_⟩
  rintro ⟨g, n, cap, rs, h1, h2, h3⟩
  exact ⟨g, n, cap, rs, h1.chg hc (hn _ h.1.1) (hn _ h3), h2, h3⟩
theorem JS.below (h : JS w q lim xs S) (hb : Below w.heap.size w w') : JS w' q lim xs S := h.chg (Chg.ofBelow hb (fun _ => False)) (fun _ f => f.elim)
theorem JS.lt (h : JS w q lim xs S) : q < w.heap.size := h.1.2 _ h.1.1
theorem JS.blk (h : JS w q lim xs S) : ∃ r, w.heap[q]? = some (.cells #[r, .int .i64 0, .int .i64 (xs.length : Int), .int .i64 (lim : Int)] 151 (0, 0)) := by
  rcases h.2 with ⟨rfl, h1⟩ | ⟨g, n, cap, rs, h1, -⟩
  · exact ⟨_, h1.blk⟩
  · exact ⟨_, h1.blk⟩
theorem JS.c2 (h : JS w q lim xs S) : w.cell? ⟨q, 2, none⟩ = some (.int .i64 (xs.length : Int)) := by
  obtain ⟨r, e⟩ := h.blk
  simp [World.cell?, e]
theorem JS.c3 (h : JS w q lim xs S) : w.cell? ⟨q, 3, none⟩ = some (.int .i64 (lim : Int)) := by
  obtain ⟨r, e⟩ := h.blk
  simp [World.cell?, e]
theorem JS.lim_le (h : JS w q lim xs S) : lim ≤ 4096 := by
  rcases h.2 with ⟨rfl, h1⟩ | ⟨g, n, cap, rs, h1, -⟩
  · exact h1.lim_le
  · exact h1.lim_le
/-- What a step leaves: the blocks that were there, and new ones. -/
def Aft (S : Nat → Prop) (w w' : World) (k : Nat) : Prop := S k ∨ (w.heap.size ≤ k ∧ k < w'.heap.size)
end
theorem jl_push {rs : List Jb} {n m : Nat} (x : Jb) (hl : rs.length = n) (hm : m < n) : jl (rs.set m x) n 0 (m + 1) = jl rs n 0 m ++ [x] := by
  rw [jl_succ]
  congr 1
  · apply List.map_congr_left
    intro j hj
    have hj' : j < m := by simpa using hj
    have e : (0 + j) % n = j := by rw [Nat.zero_add]; exact Nat.mod_eq_of_lt (by omega)
    rw [e, List.getD_eq_getElem?_getD, List.getD_eq_getElem?_getD, List.getElem?_set_ne (by omega)]
  · have e : (0 + m) % n = m := by rw [Nat.zero_add]; exact Nat.mod_eq_of_lt hm
    rw [e, List.getD_eq_getElem?_getD, List.getElem?_set_self (by omega)]
    rfl
theorem jpush_ok (q lim : Nat) (xs : List Jb) (S : Nat → Prop) (x : Jb) (w : World) (h : JS w q lim xs S) (hm : xs.length < lim) :
    Calls Try.prog 63 #[.pointer (some ⟨q, 0, none⟩), .agg #[.int .i64 x.f0, .int .i64 x.f1, .int .i64 x.f2, .int .i64 x.f3]] w fun e w' => e = .returned .nilIface ∧ JS w' q lim (xs ++ [x]) (Aft S w w') ∧ Chg S w w' := by
  obtain ⟨⟨hq, hS⟩, ⟨rfl, h1⟩ | ⟨g, n, cap, rs, h1, h2, h3⟩⟩ := h
  · refine (jpush_first q lim x w h1 (by simpa using hm)).mono ?_
    rintro e w' ⟨rfl, g', n', cap', rs', k1, k2, k3, k4⟩
    refine ⟨rfl, ⟨⟨.inl hq, ?_⟩, .inr ⟨g', n', cap', rs', k1, k2, .inr ⟨k3, k1.ltg⟩⟩⟩, k4.mono (fun k _ e => by have e' : k = q := e; rw [e']; exact hq)⟩
    rintro k (s | s)
    · exact Nat.lt_of_lt_of_le (hS k s) k4.size
    · exact s.2
  · rcases Nat.lt_or_ge xs.length n with h4 | h4
    · refine (jpush_room q g n cap 0 xs.length lim rs x w h1 h4).mono ?_
      rintro e w' ⟨rfl, k1, k2⟩
      have e0 : (0 + xs.length) % n = xs.length := by rw [Nat.zero_add]; exact Nat.mod_eq_of_lt h4
      rw [e0] at k1
      refine ⟨rfl, ⟨⟨.inl hq, ?_⟩, .inr ⟨g, n, cap, _, by simpa using k1, ?_, .inl h3⟩⟩, k2.mono (fun k _ e => by rcases e with e | e <;> rw [e] <;> assumption)⟩
      · rintro k (s | s)
        · exact Nat.lt_of_lt_of_le (hS k s) k2.size
        · exact s.2
      · rw [List.length_append, List.length_singleton, jl_push x h1.len h4, h2]
    · have e : n = xs.length := by have := h1.many_le; omega
      subst e
      refine (jpush_grow q g xs.length cap 0 lim rs x w h1 hm).mono ?_
      rintro e w' ⟨rfl, g', n', cap', rs', k1, k2, k3, k4⟩
      rw [h2] at k2
      refine ⟨rfl, ⟨⟨.inl hq, ?_⟩, .inr ⟨g', n', cap', rs', by simpa using k1, by simpa using k2, .inr ⟨k3, k1.ltg⟩⟩⟩, k4.mono (fun k _ e => by have e' : k = q := e; rw [e']; exact hq)⟩
      rintro k (s | s)
      · exact Nat.lt_of_lt_of_le (hS k s) k4.size
      · exact s.2
theorem JS.list {w : World} {q lim : Nat} {xs : List Jb} {S : Nat → Prop} (h : JS w q lim xs S) :
    Calls Try.prog 64 #[.pointer (some ⟨q, 0, none⟩)] w fun e w' => ∃ v, e = .returned v ∧ kJ.R 32 w' w.heap.size (fun _ => True) v xs ∧ Below w.heap.size w w' := by
  rcases h.2 with ⟨rfl, h1⟩ | ⟨g, n, cap, rs, h1, h2, -⟩
  · refine (jlist_none q w h1.c2).mono ?_
    rintro e w' ⟨rfl, rfl⟩
    exact ⟨_, rfl, Kd.R_nil _ _ _ _ _, Below.refl _ _⟩
  · refine (jlist_some q g n cap 0 xs.length lim rs w h1).mono ?_
    rintro e w' ⟨v, rfl, k1, k2⟩
    rw [h2] at k1
    exact ⟨v, rfl, k1, k2⟩

end Go.Proofs.Ytdilediiofenmaa

set_option linter.unusedVariables false
set_option linter.unusedSimpArgs false
namespace Go.Proofs.Ytdilediiofenmaa
open Go.RowKit
open Go.Proofs.YtdilediiofenmaaW.PrintWords (Kd Drawn0 Kept rd rdOf)
open Go.Proofs.Ytdilediiofenmaa.PSlackRuns
set_option maxRecDepth 100000

set_option maxHeartbeats 1000000 in
theorem jput_ok (q g n cap first many lim i : Nat) (rs : List Jb) (x : Jb) (w : World) (h : JQ w q g n cap first many lim rs) (hi : i < many) :
    Calls Try.prog 67 #[.pointer (some ⟨q, 0, none⟩), .int .i64 (i : Int), .agg #[.int .i64 x.f0, .int .i64 x.f1, .int .i64 x.f2, .int .i64 x.f3]] w fun e w' => e = .returned .nilIface ∧ JQ w' q g n cap first many lim (rs.set ((first + i) % n) x) ∧ Chg (fun k => k = q ∨ k = g) w w' := by
  have hq0 := h.lt
  have hgw := h.ltg
  obtain ⟨bq, hbq⟩ : ∃ b, b = w.heap.size := ⟨_, rfl⟩
  obtain ⟨wa, hwa⟩ : ∃ y, y = w.alloc (.cells #[.int .i64 x.f0, .int .i64 x.f1, .int .i64 x.f2, .int .i64 x.f3] 32) := ⟨_, rfl⟩
  have hbx : wa.heap[bq]? = some (.cells #[.int .i64 x.f0, .int .i64 x.f1, .int .i64 x.f2, .int .i64 x.f3] 32 (0, 0)) := by rw [hwa, hbq]; exact heap_alloc_new w _
  have xa : Chg (fun _ => False) w wa := by rw [hwa]; exact (Chg.refl _ w).alloc _
  replace h := h.chgA xa
  have HBX := Lib.hid hbx
  have XA := Lib.hid xa
  have HWA := Lib.hid hwa
  have HBQ := Lib.hid hbq
  clear xa hwa hbq
  have c0 := h.c0
  have c2 := h.c2
  have A := jhas_t q i many wa c2 (by omega) (by omega)
  obtain ⟨j, hj⟩ : ∃ j, j = (first + i) % n := ⟨_, rfl⟩
  have hjn : j < n := by rw [hj]; exact Nat.mod_lt _ (by have := h.f_lt; omega)
  obtain ⟨y, hy, hd⟩ := h.at i
  rw [← hj] at hy
  obtain ⟨x0, x1, x2, x3⟩ := h.cells hy
  obtain ⟨f0, f1, f2, f3⟩ := h.frozen hy
  obtain ⟨v0, v1, v2, v3⟩ := box_cells hbx
  have AT := h.at_any i (by have := h.many_le; omega)
  rw [← hj] at AT
  have b4 := h.small
  have HAT := Lib.hid AT
  have HJ := Lib.hid hj
  have HH := Lib.hid h
  have HA := Lib.hid A
  clear A AT hj hy hd h hbx
  go_enter Try.func67, Try.ntmps67
  go_wp2_with fail
  rw [← HWA.out, ← HBQ.out]
  refine HA.out.mono ?_
  rintro e w1 ⟨rfl, rfl⟩
  go_wp2_with fail
  go_region_law (first
    | (go_simp; go_at_call 84; refine (HAT.out (World.drew wa) rfl).mono ?_; rintro e w' ⟨rfl, d, rfl⟩))
  all_goals
    go_wp2
    go_ret
    refine ⟨rfl, ?_, (XA.out.mono (fun _ _ f => f.elim)).trans (((((Chg.refl (fun k => k = q ∨ k = g) wa).drewN (1 + d)).setCell _ _ (.inr rfl)).setCell _ _ (.inr rfl)).setCell _ _ (.inr rfl) |>.setCell _ _ (.inr rfl))⟩
    rw [← HJ.out]
    exact (HH.out.heap (w' := wa.drewN (1 + d)) rfl).set hjn x

set_option maxHeartbeats 1000000 in
theorem jhead_ok (q g n cap first many lim : Nat) (rs : List Jb) (x : Jb) (w : World) (h : JQ w q g n cap first many lim rs) (hm : 0 < many) (hx : rs[first]? = some x) :
    Calls Try.prog 66 #[.pointer (some ⟨q, 0, none⟩)] w fun e w' => e = .returned (.tuple #[.agg #[.int .i64 x.f0, .int .i64 x.f1, .int .i64 x.f2, .int .i64 x.f3], .bool true]) ∧ Below w.heap.size w w' := by
  obtain ⟨W0, hW0⟩ : ∃ y, y = w.alloc (.cells #[.int .i64 0, .int .i64 0, .int .i64 0, .int .i64 0] 32) := ⟨_, rfl⟩
  have hB0 : Below w.heap.size w W0 := by rw [hW0]; exact (Below.refl _ w).alloc (Nat.le_refl _) _
  have k4 : W0.heap[w.heap.size]? = some (.cells #[.int .i64 zJ.f0, .int .i64 zJ.f1, .int .i64 zJ.f2, .int .i64 zJ.f3] 32 (0, 0)) := by rw [hW0]; exact heap_alloc_new w _
  have HA := Lib.hid (jat_some q g n cap first many lim 0 rs x W0 (h.below hB0) hm (by rw [Nat.add_zero, Nat.mod_eq_of_lt h.f_lt]; exact hx))
  have HW0 := Lib.hid hW0
  have HB0 := Lib.hid hB0
  have K4 := Lib.hid k4
  clear h hx hW0 hB0 k4
  go_enter Try.func66, Try.ntmps66
  go_wp2_with fail
  rw [← HW0.out]
  generalize hbw : w.heap.size = bw at *
  refine HA.out.mono ?_
  rintro e w1 ⟨rfl, hb⟩
  have k4 : w1.heap[bw]? = some (.cells #[.int .i64 zJ.f0, .int .i64 zJ.f1, .int .i64 zJ.f2, .int .i64 zJ.f3] 32 (0, 0)) := (hb.block bw (Array.getElem?_eq_some_iff.1 K4.out).1).trans K4.out
  obtain ⟨y0, y1, y2, y3⟩ := box_cells k4
  have g0 := box_frozen k4 0
  have g1 := box_frozen k4 1
  have g2 := box_frozen k4 2
  have g3 := box_frozen k4 3
  have HB1 := Lib.hid (below_call HB0.out (by rw [hbw]; exact Nat.le_refl _) hb)
  clear hb k4
  go_wp2
  refine bodyPost_ret (v := .tuple #[.agg #[.int .i64 x.f0, .int .i64 x.f1, .int .i64 x.f2, .int .i64 x.f3], .bool true]) (by simp [results, Try.results66, go_sem, y0, y1, y2, y3]) rfl ⟨rfl, ?_⟩
  rw [hbw]
  exact (((HB1.out.setCell (p := ⟨bw, 0, none⟩) (Nat.le_refl _) _).setCell (p := ⟨bw, 1, none⟩) (Nat.le_refl _) _).setCell (p := ⟨bw, 2, none⟩) (Nat.le_refl _) _).setCell (p := ⟨bw, 3, none⟩) (Nat.le_refl _) _

end Go.Proofs.Ytdilediiofenmaa

set_option linter.unusedVariables false
set_option linter.unusedSimpArgs false
namespace Go.Proofs.Ytdilediiofenmaa
open Go.RowKit
open Go.Proofs.YtdilediiofenmaaW.PrintWords (Kd Drawn0 Kept rd rdOf)
open Go.Proofs.Ytdilediiofenmaa.PSlackRuns
set_option maxRecDepth 100000

theorem merge {P Q : Prop} (main : Hid P → Q) (side : P) : Q := main (Lib.hid side)
set_option maxHeartbeats 2000000 in
theorem jpop_ok (q g n cap first many lim : Nat) (rs : List Jb) (x : Jb) (w : World) (h : JQ w q g n cap first many lim rs) (hm : 0 < many) (hx : rs[first]? = some x) :
    Calls Try.prog 68 #[.pointer (some ⟨q, 0, none⟩)] w fun e w' => e = .returned (.tuple #[.agg #[.int .i64 x.f0, .int .i64 x.f1, .int .i64 x.f2, .int .i64 x.f3], .nilIface]) ∧ JQ w' q g n cap ((first + 1) % n) (many - 1) lim (rs.set first zJ) ∧ Chg (fun k => k = q ∨ k = g) w w' := by
  obtain ⟨W0, hW0⟩ : ∃ y, y = (w.alloc (.cells #[.int .i64 0, .int .i64 0, .int .i64 0, .int .i64 0] 32)).alloc (.cells #[.int .i64 0, .int .i64 0, .int .i64 0, .int .i64 0] 32) := ⟨_, rfl⟩
  have hX0 : Chg (fun _ => False) w W0 := by rw [hW0]; exact ((Chg.refl _ w).alloc _).alloc _
  obtain ⟨rb, hrb⟩ : ∃ b, b = w.heap.size := ⟨_, rfl⟩
  have hs0 : W0.heap.size = rb + 2 := by rw [hW0, hrb]; simp
  have k4 : W0.heap[rb]? = some (.cells #[.int .i64 zJ.f0, .int .i64 zJ.f1, .int .i64 zJ.f2, .int .i64 zJ.f3] 32 (0, 0)) := by rw [hW0, hrb, heap_alloc_old _ _ (by simp)]; exact heap_alloc_new w _
  have k6 : W0.heap[rb + 1]? = some (.cells #[.int .i64 zJ.f0, .int .i64 zJ.f1, .int .i64 zJ.f2, .int .i64 zJ.f3] 32 (0, 0)) := by
    have := heap_alloc_new (w.alloc (.cells #[.int .i64 0, .int .i64 0, .int .i64 0, .int .i64 0] 32)) (.cells #[.int .i64 0, .int .i64 0, .int .i64 0, .int .i64 0] 32)
    rw [show (w.alloc (.cells #[.int .i64 0, .int .i64 0, .int .i64 0, .int .i64 0] 32)).heap.size = w.heap.size + 1 by simp] at this
    rw [hW0, hrb]; exact this
  have hqr : q < rb := by rw [hrb]; exact h.lt
  have hgr : g < rb := by rw [hrb]; exact h.ltg
  replace h := h.chgA hX0
  have hqW : q < W0.heap.size := h.lt
  have hgW : g < W0.heap.size := h.ltg
  have HS0 := Lib.hid hs0
  have HQR := Lib.hid hqr
  have HGR := Lib.hid hgr
  clear hs0 hqr hgr
  have hn4 := h.small
  have hfl := h.f_lt
  have c0 := h.c0
  have c1 := h.c1
  have c2 := h.c2
  obtain ⟨x0, x1, x2, x3⟩ := h.cells hx
  have HA := Lib.hid (jhas_t q 0 many W0 c2 (by omega) (by omega))
  have HW0 := Lib.hid hW0
  have HRB := Lib.hid hrb
  have HX0 := Lib.hid hX0
  have HH := Lib.hid h
  have K4 := Lib.hid k4
  have K6 := Lib.hid k6
  have HX := Lib.hid hx
  clear hW0 hrb hX0 h k4 k6 hx c2
  go_enter Try.func68, Try.ntmps68
  go_wp2_with fail
  rw [← HW0.out, ← HRB.out]
  refine HA.out.mono ?_
  rintro e w1 ⟨rfl, rfl⟩
  go_wp2_with fail
  apply merge
  · intro H
    go_region_law (fail)
    all_goals exact H.out
  obtain ⟨vb, hvb⟩ : ∃ b, b = W0.heap.size := ⟨_, rfl⟩
  obtain ⟨W1, hW1⟩ : ∃ y, y = (W0.alloc (.cells #[.int .i64 x.f0, .int .i64 x.f1, .int .i64 x.f2, .int .i64 x.f3] 32)).drew := ⟨_, rfl⟩
  rw [← hW1, ← hvb]
  have X1 : Chg (fun _ => False) W0 W1 := by rw [hW1]; exact ((Chg.refl _ W0).alloc _).drew
  have kv : W1.heap[vb]? = some (.cells #[.int .i64 x.f0, .int .i64 x.f1, .int .i64 x.f2, .int .i64 x.f3] 32 (0, 0)) := by rw [hW1, hvb]; exact heap_alloc_new W0 _
  have k4 := X1.heap K4.out (fun f => f)
  have k6 := X1.heap K6.out (fun f => f)
  have h1 := HH.out.chgA X1
  have hvr : vb = rb + 2 := hvb.trans HS0.out
  have HX1 := Lib.hid X1
  have HV := Lib.hid hvr
  clear hW1 X1 hvb hvr c0 c1 x0 x1 x2 x3 hqW hgW
  have c0 := h1.c0
  have c1 := h1.c1
  have hqW := h1.lt
  have hgW := h1.ltg
  obtain ⟨f0, f1, f2, f3⟩ := h1.frozen HX.out
  obtain ⟨x0, x1, x2, x3⟩ := h1.cells HX.out
  obtain ⟨z0, z1, z2, z3⟩ := box_cells (x := zJ) k6
  have HH1 := Lib.hid h1
  have KV := Lib.hid kv
  have K41 := Lib.hid k4
  clear h1 kv k4 k6
  go_wp2_with fail
  go_still_tail 10, (by kernel_rfl)
  change wpList _ _ _ _ _ W1.drew
  obtain ⟨W2, hW2⟩ : ∃ y, y = W1.drew := ⟨_, rfl⟩
  rw [← hW2]
  have e12 : W2.heap = W1.heap := by rw [hW2]; rfl
  have ec : ∀ p, W2.cell? p = W1.cell? p := fun p => by simp [World.cell?, e12]
  have ef : ∀ p, W2.frozen? p = W1.frozen? p := fun p => by simp [World.frozen?, e12]
  rw [← ec] at z0 z1 z2 z3 x0 x1 x2 x3
  rw [← ef] at f0 f1 f2 f3
  have X2 : Chg (fun _ => False) W1 W2 := by rw [hW2]; exact (Chg.refl _ W1).drew
  have HX2 := Lib.hid X2
  have HH2 := Lib.hid (HH1.out.heap e12)
  have KV2 := Lib.hid (X2.heap KV.out (fun f => f))
  have K42 := Lib.hid (X2.heap K41.out (fun f => f))
  clear hW2 e12 ec ef X2 c0 c1
  go_wp2_with fail
  obtain ⟨W3, hW3⟩ : ∃ y, y = ((((W2.setCell ⟨g, first * 4, none⟩ (.int .i64 zJ.f0)).setCell ⟨g, first * 4 + 1, none⟩ (.int .i64 zJ.f1)).setCell ⟨g, first * 4 + 2, none⟩ (.int .i64 zJ.f2)).setCell ⟨g, first * 4 + 3, none⟩ (.int .i64 zJ.f3)) := ⟨_, rfl⟩
  rw [← hW3]
  have H3 := HH2.out.set HH2.out.f_lt zJ
  rw [← hW3] at H3
  have X3 : Chg (fun k => k = g) W2 W3 := by rw [hW3]; exact ((((Chg.refl (fun k => k = g) W2).setCell _ _ rfl).setCell _ _ rfl).setCell _ _ rfl).setCell _ _ rfl
  have gv : ¬ vb = g := by have := HV.out; have := HGR.out; omega
  have gr : ¬ rb = g := by have := HGR.out; omega
  have KV3 := Lib.hid (X3.heap KV2.out gv)
  have K43 := Lib.hid (X3.heap K42.out gr)
  have HX3 := Lib.hid X3
  have A3 := jat_q q _ cap 1 first n W3 hn4 hfl (by omega) H3.c0 H3.c1
  have HH3 := Lib.hid H3
  clear hW3 H3 X3 gv gr x0 x1 x2 x3 f0 f1 f2 f3 z0 z1 z2 z3 hqW hgW
  refine A3.mono ?_
  rintro e W4 ⟨rfl, d, hW4⟩
  clear A3
  have e34 : W4.heap = W3.heap := by rw [hW4]; rfl
  have X4 : Chg (fun _ => False) W3 W4 := by rw [hW4]; exact (Chg.refl _ W3).drewN d
  have H4 := HH3.out.heap e34
  have KV4 := X4.heap KV3.out (fun f => f)
  have K44 := X4.heap K43.out (fun f => f)
  have c1 := H4.c1
  have u1 := H4.fz 1
  have c2 := H4.c2
  have u2 := H4.fz 2
  have b4 : many ≤ 4096 := by have := H4.many_le; omega
  have hqW := H4.lt
  obtain ⟨y0, y1, y2, y3⟩ := box_cells KV4
  have r0 := box_frozen (x := zJ) K44 0
  have r1 := box_frozen (x := zJ) K44 1
  have r2 := box_frozen (x := zJ) K44 2
  have r3 := box_frozen (x := zJ) K44 3
  obtain ⟨s0, s1, s2, s3⟩ := box_cells (x := zJ) K44
  have hqr := HQR.out
  have hvr : q < vb := by have := HV.out; omega
  have hrv : rb < vb := by have := HV.out; omega
  have HH4 := Lib.hid H4
  have HX4 := Lib.hid X4
  obtain ⟨f', hf'⟩ : ∃ f', f' = (first + 1) % n := ⟨_, rfl⟩
  rw [← hf']
  have hfl' : f' < n := by rw [hf']; exact Nat.mod_lt _ (by omega)
  have HF := Lib.hid hf'
  clear hf' H4 X4 KV4 K44 e34 hW4
  go_wp2_with fail
  refine bodyPost_ret (v := .tuple #[.agg #[.int .i64 x.f0, .int .i64 x.f1, .int .i64 x.f2, .int .i64 x.f3], .nilIface]) (by simp [results, Try.results68, go_sem, s0, s1, s2, s3]) rfl ⟨rfl, ?_, ?_⟩
  · have e1 : ((many : Int) - 1) = ((many - 1 : Nat) : Int) := by omega
    rw [e1, ← HF.out]
    have h1 := (HH4.out.set1 f' hfl').set2 (many - 1) (by have := HH4.out.many_le; omega)
    have hq' : ¬ q = rb := by omega
    have hg' : ¬ g = rb := by have := HGR.out; omega
    exact h1.chg ((((Chg.refl (fun k => k = rb) _).setCell ⟨rb, 0, none⟩ _ rfl).setCell ⟨rb, 1, none⟩ _ rfl).setCell ⟨rb, 2, none⟩ _ rfl |>.setCell ⟨rb, 3, none⟩ _ rfl) hq' hg'
  · have hz := HRB.out
    have Y : Chg (fun k => k = q ∨ k = g) w W4 := (((((HX0.out.mono (T := fun k => k = q ∨ k = g) (fun _ _ f => f.elim)).trans (HX1.out.mono (fun _ _ f => f.elim))).trans (HX2.out.mono (fun _ _ f => f.elim))).trans (HX3.out.mono (fun _ _ e => .inr e))).trans (HX4.out.mono (fun _ _ f => f.elim)))
    have Z : Chg (fun k => (k = q ∨ k = g) ∨ k = rb) w (((((((W4.setCell ⟨q, 1, none⟩ (.int .i64 f')).setCell ⟨q, 2, none⟩ (.int .i64 ((many : Int) - 1))).setCell ⟨rb, 0, none⟩ (.int .i64 x.f0)).setCell ⟨rb, 1, none⟩ (.int .i64 x.f1)).setCell ⟨rb, 2, none⟩ (.int .i64 x.f2)).setCell ⟨rb, 3, none⟩ (.int .i64 x.f3))) :=
      (((((((Y.mono (fun _ _ e => .inl e)).setCell ⟨q, 1, none⟩ _ (.inl (.inl rfl))).setCell ⟨q, 2, none⟩ _ (.inl (.inl rfl))).setCell ⟨rb, 0, none⟩ _ (.inr rfl)).setCell ⟨rb, 1, none⟩ _ (.inr rfl)).setCell ⟨rb, 2, none⟩ _ (.inr rfl)).setCell ⟨rb, 3, none⟩ _ (.inr rfl))
    exact Z.mono (fun k hk e => e.elim id (fun e => by omega))

end Go.Proofs.Ytdilediiofenmaa
