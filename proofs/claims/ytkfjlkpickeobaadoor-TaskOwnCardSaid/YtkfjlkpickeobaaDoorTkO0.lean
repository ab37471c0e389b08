/- The law TaskOwn, by contract. Printed by gen_lown.py (this repo's). -/
import Derived.Test.YtkfjlkpickeobaaDoorTmD
set_option linter.unusedVariables false
set_option linter.unusedSimpArgs false
namespace Go.Proofs.YtkfjlkpickeobaaDoor
open Go.RowKit
open Go.Proofs.YtkfjlkpickeobaaDoorW.PrintWords (Kd Drawn0 Kept rd rdOf ReadsRow)
open Go.Proofs.YtkfjlkpickeobaaDoor.PTaskRuns
set_option maxRecDepth 100000

theorem runF_err (T : Tk) (now : Int) : 0 ≤ (runF T now).2.2.2 := by
  unfold runF
  repeat' split
  all_goals first | exact Int.le_refl (0 : Int) | decide | (dsimp only; decide)
/-- A row of jobs of one's own, whatever it holds. -/
def JO (A : Option Addr) (n c base top : Nat) (W : World) : Prop :=
  (A = none ∧ n = 0 ∧ c = 0) ∨ ∃ (g : Nat) (cur : Array Value), A = some ⟨g, 0, none⟩ ∧ base ≤ g ∧ g < top ∧ W.heap[g]? = some (.cells cur 28 (0, 0)) ∧ n ≤ c ∧ c ≤ maxLen ∧ cur.size = c * 4
theorem JO.of_R {W : World} {base n c : Nat} {A : Option Addr} {js : List Jb} {ok : Nat → Prop} (h : kJ.R 28 W base ok (.slice A n c) js) (hl : js.length = n) : JO A n c base W.heap.size W := by
  obtain ⟨inner, h1, h2⟩ := Kd.R_own h
  rcases h2 with ⟨e, hn⟩ | ⟨g, cap, cur, e, hb, hh, hc, hm, hs, ht⟩
  · injection e with e1 e2 e3
    exact .inl ⟨e1, e2, e3⟩
  · injection e with e1 e2 e3
    subst e1 e3
    exact .inr ⟨g, cur, rfl, hb, (Array.getElem?_eq_some_iff.1 hh).1, hh, by omega, hm, hs⟩
theorem JO.frame {A : Option Addr} {n c base top : Nat} {W W' : World} (h : JO A n c base top W) (hf : ∀ k, base ≤ k → k < top → W'.heap[k]? = W.heap[k]?) : JO A n c base top W' := by
  rcases h with h | ⟨g, cur, rfl, h1, h2, h3, h4⟩
  · exact .inl h
  · exact .inr ⟨g, cur, rfl, h1, h2, (hf g h1 h2).trans h3, h4⟩
theorem JO.own {A : Option Addr} {n c base top : Nat} {W : World} (h : JO A n c base top W) : ∃ xs, W.ownsRow base 28 4 (.slice A n c) n xs := by
  rcases h with ⟨rfl, rfl, rfl⟩ | ⟨g, cur, rfl, h1, h2, h3, h4, h5, h6⟩
  · exact ⟨[], rfl, .inl ⟨rfl, rfl⟩⟩
  · refine ⟨cur.toList.take (n * 4), ?_, .inr ⟨g, c, cur, rfl, h1, h3, h4, h5, h6, rfl⟩⟩
    rw [List.length_take, Array.length_toList, h6]
    omega
theorem JO.base {A : Option Addr} {n c base top : Nat} {W : World} (h : JO A n c base top W) (k : Nat) (hk : Value.ownBlock (.slice A n c) = some k) : base ≤ k ∧ k < top := by
  rcases h with ⟨rfl, rfl, rfl⟩ | ⟨g, cur, rfl, h1, h2, h3, h4, h5, h6⟩
  · simp [Value.ownBlock] at hk
  · have : g = k := by simpa [Value.ownBlock] using hk
    omega
theorem JO.set {A : Option Addr} {n c base top i j : Nat} {W : World} (h : JO A n c base top W) (hi : i < n) (hj : j < 4) : ∃ g u, A = some ⟨g, 0, none⟩ ∧ base ≤ g ∧ g < top ∧ W.cell? ⟨g, i * 4 + j, none⟩ = some u ∧ W.frozen? ⟨g, i * 4 + j, none⟩ = false ∧
    ∀ z, JO A n c base top (W.setCell ⟨g, i * 4 + j, none⟩ z) := by
  rcases h with ⟨rfl, rfl, rfl⟩ | ⟨g, cur, rfl, h1, h2, h3, h4, h5, h6⟩
  · omega
  · have hlt : i * 4 + j < cur.size := by omega
    refine ⟨g, cur[i * 4 + j], rfl, h1, h2, ?_, ?_, fun z => .inr ⟨g, cur.setIfInBounds (i * 4 + j) z, rfl, h1, h2, heap_setCell_same W g (i * 4 + j) _ _ z h3, h4, h5, by simp [h6]⟩⟩
    · simp [World.cell?, h3, hlt]
    · simp [World.frozen?, h3]

/-- What is carried over the law's loops: two tasks in boxes, their rows apart; all else below stays. -/
structure RO (wm : World) (P Q : Tk) (Aa Ab : Option Addr) (ca cb ea ba eb bb : Nat) (W : World) : Prop where
  be : Below wm.heap.size wm W
  a : W.heap[ba]? = some (.cells (P.cs (.slice Aa P.js.length ca)).1 26 (0, 0))
  b : W.heap[bb]? = some (.cells (Q.cs (.slice Ab Q.js.length cb)).1 26 (0, 0))
  ra : JO Aa P.js.length ca ea ba W
  rb : JO Ab Q.js.length cb eb bb W
section
variable {wm W : World} {P Q : Tk} {Aa Ab : Option Addr} {ca cb ea ba eb bb : Nat}
theorem RO.c0 (h : RO wm P Q Aa Ab ca cb ea ba eb bb W) : W.cell? ⟨ba, 1, none⟩ = some (.slice Aa P.js.length ca) := by simp [World.cell?, h.a]
theorem RO.c1 (h : RO wm P Q Aa Ab ca cb ea ba eb bb W) : W.cell? ⟨bb, 1, none⟩ = some (.slice Ab Q.js.length cb) := by simp [World.cell?, h.b]
theorem RO.setA (h : RO wm P Q Aa Ab ca cb ea ba eb bb W) (k1 : wm.heap.size ≤ ea) (k2 : ba < eb) (k3 : eb ≤ bb) {i : Nat} (hi : i < P.js.length) :
    ∃ g u, Aa = some ⟨g, 0, none⟩ ∧ W.cell? ⟨g, i * 4, none⟩ = some u ∧ W.frozen? ⟨g, i * 4, none⟩ = false ∧ ∀ z, RO wm P Q Aa Ab ca cb ea ba eb bb (W.setCell ⟨g, i * 4, none⟩ z) := by
  obtain ⟨g, u, e, h1, h2, h3, h4, h5⟩ := h.ra.set hi (j := 0) (by omega)
  refine ⟨g, u, e, h3, h4, fun z => ⟨h.be.setCell (p := ⟨g, i * 4, none⟩) (by show wm.heap.size ≤ g; omega) z, ?_, ?_, h5 z, h.rb.frame fun k hk _ => ?_⟩⟩
  · rw [Below.heap_setCell W ⟨g, i * 4, none⟩ z ba (by show ba ≠ g; omega)]; exact h.a
  · rw [Below.heap_setCell W ⟨g, i * 4, none⟩ z bb (by show bb ≠ g; omega)]; exact h.b
  · exact Below.heap_setCell W ⟨g, i * 4, none⟩ z k (by show k ≠ g; omega)
theorem RO.setB (h : RO wm P Q Aa Ab ca cb ea ba eb bb W) (k1 : wm.heap.size ≤ ea) (k1' : ea ≤ eb) (k2 : ba < eb) {i : Nat} (hi : i < Q.js.length) :
    ∃ g u, Ab = some ⟨g, 0, none⟩ ∧ W.cell? ⟨g, i * 4 + 1, none⟩ = some u ∧ W.frozen? ⟨g, i * 4 + 1, none⟩ = false ∧ ∀ z, RO wm P Q Aa Ab ca cb ea ba eb bb (W.setCell ⟨g, i * 4 + 1, none⟩ z) := by
  obtain ⟨g, u, e, h1, h2, h3, h4, h5⟩ := h.rb.set hi (j := 1) (by omega)
  refine ⟨g, u, e, h3, h4, fun z => ⟨h.be.setCell (p := ⟨g, i * 4 + 1, none⟩) (by show wm.heap.size ≤ g; omega) z, ?_, ?_, h.ra.frame fun k hk hk2 => ?_, h5 z⟩⟩
  · rw [Below.heap_setCell W ⟨g, i * 4 + 1, none⟩ z ba (by show ba ≠ g; omega)]; exact h.a
  · rw [Below.heap_setCell W ⟨g, i * 4 + 1, none⟩ z bb (by show bb ≠ g; omega)]; exact h.b
  · exact Below.heap_setCell W ⟨g, i * 4 + 1, none⟩ z k (by show k ≠ g; omega)
/-- A task's block, whatever its row holds. -/
def BKX (W : World) (b : Nat) (P : Tk) (v : Value) : Prop := W.heap[b]? = some (.cells (P.cs v).1 26 (0, 0))
theorem BKX.lt {b : Nat} {v : Value} (h : BKX W b P v) : b < W.heap.size := (Array.getElem?_eq_some_iff.1 h).1
theorem BKX.below {b : Nat} {v : Value} {W' : World} (h : BKX W b P v) (hb : Below W.heap.size W W') : BKX W' b P v := (hb.block b h.lt).trans h
theorem BKX.alloc {b : Nat} {v : Value} (h : BKX W b P v) (o : Obj) : BKX (W.alloc o) b P v := h.below ((Below.refl _ W).alloc (Nat.le_refl _) o)
theorem BKX.c1 {b : Nat} {v : Value} (h : BKX W b P v) : W.cell? ⟨b, 1, none⟩ = some v := by
  unfold BKX at h
  simp [World.cell?, h]
/-- A row of one's own, carried. -/
structure JOW (W : World) (A : Option Addr) (n c base top : Nat) : Prop where
  le : top ≤ W.heap.size
  jo : JO A n c base top W
theorem JOW.below {A : Option Addr} {n c base top : Nat} {W' : World} (h : JOW W A n c base top) (hb : Below W.heap.size W W') : JOW W' A n c base top :=
  ⟨Nat.le_trans h.le hb.size, h.jo.frame fun k _ hk => hb.block k (by have := h.le; omega)⟩
theorem JOW.alloc {A : Option Addr} {n c base top : Nat} (h : JOW W A n c base top) (o : Obj) : JOW (W.alloc o) A n c base top := h.below ((Below.refl _ W).alloc (Nat.le_refl _) o)
/-- What lies below an elder world's height stays. -/
def BMW (W W0 : World) : Prop := Below W0.heap.size W0 W
theorem BMW.below {W0 W' : World} (h : BMW W W0) (hb : Below W.heap.size W W') : BMW W' W0 := below_call h (Nat.le_refl _) hb
theorem BMW.alloc {W0 : World} (h : BMW W W0) (o : Obj) : BMW (W.alloc o) W0 := h.below ((Below.refl _ W).alloc (Nat.le_refl _) o)
theorem RO.after (h : RO wm P Q Aa Ab ca cb ea ba eb bb W) (k1 : wm.heap.size ≤ ea) {o : Obj} {W' : World} (hg : (W.alloc o).grownBy W' (Value.ownBlock (.slice Aa P.js.length ca))) :
    Below wm.heap.size wm W' ∧ BKX W' ba P (.slice Aa P.js.length ca) := by
  have hal : Below W.heap.size W (W.alloc o) := (Below.refl _ W).alloc (Nat.le_refl _) o
  have hB : Below wm.heap.size wm (W.alloc o) := below_call h.be (Nat.le_refl _) hal
  have hlt : ba < W.heap.size := (Array.getElem?_eq_some_iff.1 h.a).1
  refine ⟨hB.grown hg hB.size (fun k hk => Nat.le_trans k1 (h.ra.base k hk).1), ?_⟩
  refine (hg.block ba (Nat.lt_of_lt_of_le hlt hal.size) ?_).trans ((hal.block ba hlt).trans h.a)
  intro e
  have := (h.ra.base ba e.symm).2
  omega
end
theorem own_slice {w : World} {base n : Nat} {e : TypeId} {size : Nat} {v : Value} {xs : List Value} (h : w.ownsRow base e size v n xs) : ∃ A c, v = .slice A n c := by
  rcases h.2 with ⟨rfl, rfl⟩ | ⟨g, cap, cur, rfl, _⟩
  · exact ⟨none, 0, rfl⟩
  · exact ⟨_, cap, rfl⟩
abbrev z8 : List Value := [.int .i64 0, .int .i64 0, .int .i64 0, .int .i64 0, .int .i64 0, .int .i64 0, .int .i64 0, .int .i64 0]
theorem news8 (W : World) : ∀ j u, z8[j]? = some u → (W.alloc (.cells z8.toArray 28)).cell? ((⟨W.heap.size, 0, none⟩ : Addr).add j) = some u := by
  simpa using World.news_of_block (cs := z8.toArray) (t := 28) (fr := (0, 0)) (heap_alloc_new W (.cells z8.toArray 28))
theorem infoJ' : ∃ i, Tryd.prog.info? 28 = some i ∧ i.zero = some (.agg #[.int .i64 0, .int .i64 0, .int .i64 0, .int .i64 0]) ∧ i.size = 4 ∧ i.bytes = 32 := by
  obtain ⟨i0, hi, hz⟩ := Option.map_eq_some_iff.1 infoJ
  simp only [Prod.mk.injEq] at hz
  exact ⟨i0, hi, hz⟩

end Go.Proofs.YtkfjlkpickeobaaDoor
