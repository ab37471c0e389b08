/- The law's step: its boxes, its end. -/
import Derived.Test.YtgjlkplieoajlaaDoorSlc
set_option linter.unusedVariables false
set_option linter.unusedSimpArgs false
namespace Go.Proofs.YtgjlkplieoajlaaDoor
open Go.RowKit
open Go.Proofs.YtgjlkplieoajlaaDoorW.PrintWords (Kd Drawn0 Kept rd rdOf)
open Go.Proofs.YtgjlkplieoajlaaDoor.PSlotsTwins
set_option maxRecDepth 100000

/-- What a step leaves. -/
def StepPost (w : World) (t g n cap B : Nat) (kind : Int) (S : Nat → Prop) (e : Ending) (w' : World) : Prop :=
  ∃ (ys : List Sl) (B1 : Option Addr) (d1 : Nat) (B2 : Option Addr) (d2 : Nat) (B3 : Option Addr) (d3 : Nat), e = .returned (.tuple #[.agg #[.int .i64 kind, .slice B1 n d1, .slice B2 n d2, .slice B3 n d3], .bool true]) ∧
    TB w' t g n cap kind ys ∧ Tk kind n ys ∧ RT w' B n B1 d1 B2 d2 B3 d3 ys ∧ Chg S w w'

/-- A step's three blocks: the table that came, the operation, the result. -/
structure StB (w W : World) (kind : Int) (s1 s2 s3 : Value) (kd h v : Int) : Prop where
  rb : W.heap[w.heap.size]? = some (.cells #[.int .i64 kind, s1, s2, s3] 30 (0, 0))
  ob : W.heap[w.heap.size + 1]? = some (.cells #[.int .i64 kd, .int .i64 h, .int .i64 v] 41 (0, 0))
  zb : W.heap[w.heap.size + 2]? = some (.cells #[.int .i64 0, .slice none 0 0, .slice none 0 0, .slice none 0 0] 30 (0, 0))
section
variable {w W W' : World} {kind : Int} {s1 s2 s3 : Value} {kd h v : Int}
theorem StB.later (X : StB w W kind s1 s2 s3 kd h v) {S : Nat → Prop} (hc : Chg S W W') (hS : ∀ k, S k → k < w.heap.size) : StB w W' kind s1 s2 s3 kd h v :=
  ⟨hc.heap X.rb (fun k => by have := hS _ k; omega), hc.heap X.ob (fun k => by have := hS _ k; omega), hc.heap X.zb (fun k => by have := hS _ k; omega)⟩
theorem StB.below (X : StB w W kind s1 s2 s3 kd h v) (hb : Below W.heap.size W W') : StB w W' kind s1 s2 s3 kd h v := X.later (Chg.ofBelow hb (fun _ => False)) (fun _ f => f.elim)
theorem StB.new (w : World) (kind : Int) (s1 s2 s3 : Value) (kd h v : Int) : StB w (((w.alloc (.cells #[.int .i64 kind, s1, s2, s3] 30)).alloc (.cells #[.int .i64 kd, .int .i64 h, .int .i64 v] 41)).alloc (.cells #[.int .i64 0, .slice none 0 0, .slice none 0 0, .slice none 0 0] 30)) kind s1 s2 s3 kd h v := by
  have a1 := heap_alloc_new w (.cells #[.int .i64 kind, s1, s2, s3] 30)
  have a2 := heap_alloc_new (w.alloc (.cells #[.int .i64 kind, s1, s2, s3] 30)) (.cells #[.int .i64 kd, .int .i64 h, .int .i64 v] 41)
  have a3 := heap_alloc_new ((w.alloc (.cells #[.int .i64 kind, s1, s2, s3] 30)).alloc (.cells #[.int .i64 kd, .int .i64 h, .int .i64 v] 41)) (.cells #[.int .i64 0, .slice none 0 0, .slice none 0 0, .slice none 0 0] 30)
  have sz : ∀ (u : World) (o : Obj), (u.alloc o).heap.size = u.heap.size + 1 := fun u o => by simp
  rw [sz] at a2
  rw [sz, sz] at a3
  have b1 : ∀ (u : World) (o : Obj), Chg (fun _ => False) u (u.alloc o) := fun u o => (Chg.refl _ u).alloc o
  exact ⟨(b1 _ _).heap ((b1 _ _).heap a1 (fun f => f)) (fun f => f), (b1 _ _).heap a2 (fun f => f), a3⟩
theorem StB.r (X : StB w W kind s1 s2 s3 kd h v) : W.cell? ⟨w.heap.size, 0, none⟩ = some (.int .i64 kind) ∧ W.cell? ⟨w.heap.size, 1, none⟩ = some s1 ∧ W.cell? ⟨w.heap.size, 2, none⟩ = some s2 ∧ W.cell? ⟨w.heap.size, 3, none⟩ = some s3 := by
  simp [World.cell?, X.rb]
theorem StB.o (X : StB w W kind s1 s2 s3 kd h v) : W.cell? ⟨w.heap.size + 1, 0, none⟩ = some (.int .i64 kd) ∧ W.cell? ⟨w.heap.size + 1, 1, none⟩ = some (.int .i64 h) ∧ W.cell? ⟨w.heap.size + 1, 2, none⟩ = some (.int .i64 v) := by
  simp [World.cell?, X.ob]
theorem StB.z (X : StB w W kind s1 s2 s3 kd h v) : W.cell? ⟨w.heap.size + 2, 0, none⟩ = some (.int .i64 0) ∧ W.cell? ⟨w.heap.size + 2, 1, none⟩ = some (.slice none 0 0) ∧ W.cell? ⟨w.heap.size + 2, 2, none⟩ = some (.slice none 0 0) ∧ W.cell? ⟨w.heap.size + 2, 3, none⟩ = some (.slice none 0 0) := by
  simp [World.cell?, X.zb]
theorem StB.f (X : StB w W kind s1 s2 s3 kd h v) (i : Nat) : W.frozen? ⟨w.heap.size + 2, i, none⟩ = false := by
  simp [World.frozen?, X.zb]
theorem StB.lt (X : StB w W kind s1 s2 s3 kd h v) : w.heap.size + 2 < W.heap.size := (Array.getElem?_eq_some_iff.1 X.zb).1

theorem RT.ne_blk {W : World} {B n : Nat} {A1 : Option Addr} {c1 : Nat} {A2 : Option Addr} {c2 : Nat} {A3 : Option Addr} {c3 : Nat} {xs : List Sl} (R : RT W B n A1 c1 A2 c2 A3 c3 xs) {b : Nat} {cs : Array Value} (hb : W.heap[b]? = some (.cells cs 30 (0, 0))) : ¬ Own3 n A1 c1 A2 c2 A3 c3 b := by
  rintro (e | e | e)
  · exact Kd.R_ne R.r1 hb (by decide) e.symm
  · exact Kd.R_ne R.r2 hb (by decide) e.symm
  · exact Kd.R_ne R.r3 hb (by decide) e.symm

/-- The end of a step: the result's block holds the reference's table. -/
theorem StB.fin {t g n cap B : Nat} {ys : List Sl} {B1 : Option Addr} {d1 : Nat} {B2 : Option Addr} {d2 : Nat} {B3 : Option Addr} {d3 : Nat} {S : Nat → Prop} {k2 : Int} (X : StB w W k2 s1 s2 s3 kd h v) (hT : TB W t g n cap kind ys) (hy : Tk kind n ys) (R : RT W B n B1 d1 B2 d2 B3 d3 ys) (hc : Chg S w W) (ht : t < w.heap.size) (hg : g < w.heap.size) (a b c d : Value) :
    StepPost w t g n cap B kind S (.returned (.tuple #[.agg #[.int .i64 kind, .slice B1 n d1, .slice B2 n d2, .slice B3 n d3], .bool true])) ((((W.setCell ⟨w.heap.size + 2, 0, none⟩ a).setCell ⟨w.heap.size + 2, 1, none⟩ b).setCell ⟨w.heap.size + 2, 2, none⟩ c).setCell ⟨w.heap.size + 2, 3, none⟩ d) := by
  have C : Chg (fun k => k = w.heap.size + 2) W ((((W.setCell ⟨w.heap.size + 2, 0, none⟩ a).setCell ⟨w.heap.size + 2, 1, none⟩ b).setCell ⟨w.heap.size + 2, 2, none⟩ c).setCell ⟨w.heap.size + 2, 3, none⟩ d) :=
    ((((Chg.refl (fun k => k = w.heap.size + 2) W).setCell ⟨w.heap.size + 2, 0, none⟩ a rfl).setCell ⟨w.heap.size + 2, 1, none⟩ b rfl).setCell ⟨w.heap.size + 2, 2, none⟩ c rfl).setCell ⟨w.heap.size + 2, 3, none⟩ d rfl
  refine ⟨ys, B1, d1, B2, d2, B3, d3, rfl, hT.chg C (by show ¬ t = _; omega) (by show ¬ g = _; omega), hy, R.chg C (fun k hk => by obtain rfl : k = _ := hk; exact R.ne_blk X.zb), ?_⟩
  exact ⟨C.os.trans hc.os, C.tape.trans hc.tape, C.output.trans hc.output, Nat.le_trans hc.size C.size, fun k hk hn => (C.block k (Nat.lt_of_lt_of_le hk hc.size) (by omega)).trans (hc.block k hk hn)⟩
end
end Go.Proofs.YtgjlkplieoajlaaDoor
