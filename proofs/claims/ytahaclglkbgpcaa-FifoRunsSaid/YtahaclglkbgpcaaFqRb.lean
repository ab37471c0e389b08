/- tithelaw04.do: its boxes. -/
import Derived.Deep.DeepCutAuto
import Derived.Test.YtahaclglkbgpcaaFqRa
set_option linter.unusedVariables false
set_option linter.unusedSimpArgs false
namespace Go.Proofs.Ytahaclglkbgpcaa
open Go.RowKit Go.Shelf
set_option maxRecDepth 100000

structure DB (w : World) (lim n c : Nat) (a : Option Addr) (K I V : Int) (nl : Value) (W : World) : Prop where
  m : W.heap[w.heap.size]? = some (.cells #[.int .i64 (lim : Int), .slice a n c] 56 (0, 0))
  a : W.heap[w.heap.size + 1]? = some (.cells #[.int .i64 K, .int .i64 I, .int .i64 V] 63 (0, 0))
  r : W.heap[w.heap.size + 2]? = some (.cells #[.int .i64 0, .slice none 0 0] 56 (0, 0))
  x : W.heap[w.heap.size + 3]? = some (.cells #[.int .i64 (lim : Int), nl] 56 (0, 0))
  size : w.heap.size + 4 ≤ W.heap.size

theorem DB.new (w : World) (lim n c : Nat) (a : Option Addr) (K I V : Int) : DB w lim n c a K I V (.slice a n c) ((((w.alloc (.cells #[.int .i64 (lim : Int), .slice a n c] 56)).alloc (.cells #[.int .i64 K, .int .i64 I, .int .i64 V] 63)).alloc (.cells #[.int .i64 0, .slice none 0 0] 56)).alloc (.cells #[.int .i64 (lim : Int), .slice a n c] 56)) := by
  have up : ∀ (W : World) (o : Obj) {k : Nat} {o' : Obj}, W.heap[k]? = some o' → (W.alloc o).heap[k]? = some o' := fun W o k o' h => blk_below ((Below.refl _ W).alloc (Nat.le_refl _) o) h
  have h0 := World.alloc_heap_new w (.cells #[.int .i64 (lim : Int), .slice a n c] 56)
  have h1 := World.alloc_heap_new (w.alloc (.cells #[.int .i64 (lim : Int), .slice a n c] 56)) (.cells #[.int .i64 K, .int .i64 I, .int .i64 V] 63)
  have h2 := World.alloc_heap_new ((w.alloc (.cells #[.int .i64 (lim : Int), .slice a n c] 56)).alloc (.cells #[.int .i64 K, .int .i64 I, .int .i64 V] 63)) (.cells #[.int .i64 0, .slice none 0 0] 56)
  have h3 := World.alloc_heap_new (((w.alloc (.cells #[.int .i64 (lim : Int), .slice a n c] 56)).alloc (.cells #[.int .i64 K, .int .i64 I, .int .i64 V] 63)).alloc (.cells #[.int .i64 0, .slice none 0 0] 56)) (.cells #[.int .i64 (lim : Int), .slice a n c] 56)
  simp only [World.size_alloc] at h1 h2 h3
  exact ⟨up _ _ (up _ _ (up _ _ h0)), up _ _ (up _ _ h1), up _ _ h2, h3, by simp [World.size_alloc]⟩

section
variable {w W W' : World} {lim n c : Nat} {a : Option Addr} {K I V : Int} {nl : Value}
theorem DB.chg (h : DB w lim n c a K I V nl W) {S : Nat → Prop} (hc : Chg S W W') (hS : ∀ k, S k → k < w.heap.size ∨ w.heap.size + 4 ≤ k) : DB w lim n c a K I V nl W' := by
  have hn : ∀ k, w.heap.size ≤ k → k < w.heap.size + 4 → ¬ S k := fun k h1 h2 hs => by rcases hS k hs with h | h <;> omega
  exact ⟨hc.heap h.m (hn _ (by omega) (by omega)), hc.heap h.a (hn _ (by omega) (by omega)), hc.heap h.r (hn _ (by omega) (by omega)), hc.heap h.x (hn _ (by omega) (by omega)), Nat.le_trans h.size hc.size⟩
theorem DB.call (h : DB w lim n c a K I V nl W) (hb : Below W.heap.size W W') : DB w lim n c a K I V nl W' := h.chg (Chg.ofBelow hb (fun _ => False)) (fun _ f => f.elim)
theorem DB.next (h : DB w lim n c a K I V nl W) (nl' : Value) : DB w lim n c a K I V nl' ((W.setCell ⟨w.heap.size + 3, 0, none⟩ (.int .i64 (lim : Int))).setCell ⟨w.heap.size + 3, 1, none⟩ nl') := by
  have e1 := heap_setCell_same W (w.heap.size + 3) 0 _ 56 (.int .i64 (lim : Int)) h.x
  have e2 := heap_setCell_same _ (w.heap.size + 3) 1 _ 56 nl' e1
  refine ⟨?_, ?_, ?_, e2, by simp; exact h.size⟩
  · rw [heap_setCell_other _ _ _ _ (by simp), heap_setCell_other _ _ _ _ (by simp)]; exact h.m
  · rw [heap_setCell_other _ _ _ _ (by simp), heap_setCell_other _ _ _ _ (by simp)]; exact h.a
  · rw [heap_setCell_other _ _ _ _ (by simp), heap_setCell_other _ _ _ _ (by simp)]; exact h.r
theorem DB.m0 (h : DB w lim n c a K I V nl W) : W.cell? ⟨w.heap.size, 0, none⟩ = some (.int .i64 (lim : Int)) := by simp [World.cell?, h.m]
theorem DB.m1 (h : DB w lim n c a K I V nl W) : W.cell? ⟨w.heap.size, 1, none⟩ = some (.slice a n c) := by simp [World.cell?, h.m]
theorem DB.a0 (h : DB w lim n c a K I V nl W) : W.cell? ⟨w.heap.size + 1, 0, none⟩ = some (.int .i64 K) := by simp [World.cell?, h.a]
theorem DB.a1 (h : DB w lim n c a K I V nl W) : W.cell? ⟨w.heap.size + 1, 1, none⟩ = some (.int .i64 I) := by simp [World.cell?, h.a]
theorem DB.a2 (h : DB w lim n c a K I V nl W) : W.cell? ⟨w.heap.size + 1, 2, none⟩ = some (.int .i64 V) := by simp [World.cell?, h.a]
theorem DB.r0 (h : DB w lim n c a K I V nl W) : W.cell? ⟨w.heap.size + 2, 0, none⟩ = some (.int .i64 0) := by simp [World.cell?, h.r]
theorem DB.r1 (h : DB w lim n c a K I V nl W) : W.cell? ⟨w.heap.size + 2, 1, none⟩ = some (.slice none 0 0) := by simp [World.cell?, h.r]
theorem DB.rf (h : DB w lim n c a K I V nl W) (o : Nat) : W.frozen? ⟨w.heap.size + 2, o, none⟩ = false := by simp [World.frozen?, h.r]
theorem DB.x0 (h : DB w lim n c a K I V nl W) : W.cell? ⟨w.heap.size + 3, 0, none⟩ = some (.int .i64 (lim : Int)) := by simp [World.cell?, h.x]
theorem DB.x1 (h : DB w lim n c a K I V nl W) : W.cell? ⟨w.heap.size + 3, 1, none⟩ = some nl := by simp [World.cell?, h.x]
theorem DB.xf (h : DB w lim n c a K I V nl W) (o : Nat) : W.frozen? ⟨w.heap.size + 3, o, none⟩ = false := by simp [World.frozen?, h.x]
end

/-- What a step of the two leaves. -/
def After (q lim : Nat) (S : Nat → Prop) (w w' : World) (a' : Option Addr) (n' c' : Nat) (zs' : List Int) : Prop :=
  ∃ S', Qu IsI 84 3 w' q lim (zs'.map (Value.int .i64)) S' ∧ RL w' 0 a' n' c' zs' ∧ (∀ k, (Value.slice a' n' c').ownBlock = some k → ¬ S' k) ∧ Chg S w w' ∧ ∀ k, S' k → S k ∨ w.heap.size ≤ k

theorem kind_of (x : Int) : ∃ kd : Nat, (wrap64 (x.tmod 8 + 8)).tmod 8 = (kd : Int) ∧ kd < 8 := by
  have h1 : x.tmod 8 < 8 := Int.tmod_lt_of_pos x (by omega)
  have h2 : -8 < x.tmod 8 := by
    have := Int.neg_tmod x 8
    have h3 : (-x).tmod 8 < 8 := Int.tmod_lt_of_pos (-x) (by omega)
    omega
  obtain ⟨y, hy⟩ : ∃ y, y = x.tmod 8 := ⟨_, rfl⟩
  rw [← hy] at h1 h2 ⊢
  have e1 : wrap64 (y + 8) = y + 8 := by unfold wrap64; omega
  rw [e1, Int.tmod_eq_emod_of_nonneg (by omega)]
  exact ⟨((y + 8) % 8).toNat, by omega, by omega⟩

theorem RL.chg {w w' : World} {B : Nat} {a : Option Addr} {n c : Nat} {zs : List Int} (h : RL w B a n c zs) {S : Nat → Prop} (hc : Chg S w w') (hn : ∀ k, (Value.slice a n c).ownBlock = some k → ¬ S k) : RL w' B a n c zs :=
  ⟨⟨h.own.1, h.own.2.imp id fun ⟨g, c2, cur, e1, hb, hg, r⟩ => ⟨g, c2, cur, e1, hb, hc.heap hg (hn g (by rw [e1]; rfl)), r⟩⟩, h.len, h.nil⟩

section
variable {q lim n c : Nat} {a : Option Addr} {zs : List Int} {S S' : Nat → Prop} {w W0 w1 w2 w3 w9 : World}
/-- Nothing has turned. -/
theorem after_same (hQ : Qu IsI 84 3 w2 q lim (zs.map (Value.int .i64)) S) (hR : RL w 0 a n c zs) (hd : ∀ k, (Value.slice a n c).ownBlock = some k → ¬ S k) (hb : Below w.heap.size w w2) (hc : Chg (fun k => k = w.heap.size + 2) w2 w9) (hlt : ∀ k, S k → k < w.heap.size) : After q lim S w w9 a n c zs := by
  refine ⟨S, hQ.chg hc (fun k hk e => by have := hlt k hk; have : k = w.heap.size + 2 := e; omega), (hR.below hb).chg hc (fun k hk e => ?_), hd, ⟨hc.os.trans hb.os, hc.tape.trans hb.tape, hc.output.trans hb.output, Nat.le_trans hb.size hc.size, fun k hk hn => (hc.block k (Nat.lt_of_lt_of_le hk hb.size) (fun e => by have : k = w.heap.size + 2 := e; omega)).trans (hb.block k hk)⟩, fun k hk => .inl hk⟩
  have := (hR.own.lt k hk).2
  have : k = w.heap.size + 2 := e
  omega

/-- The list is new, the queue's blocks have turned. -/
theorem after_new (hQ : Qu IsI 84 3 w3 q lim (zs.map (Value.int .i64)) S') (hR : RL w1 W0.heap.size a n c zs) (h0 : w.heap.size + 4 ≤ W0.heap.size) (h2 : w.heap.size + 4 ≤ w2.heap.size) (hc2 : Chg (fun k => k = w.heap.size + 3) w1 w2) (hc3 : Chg S w2 w3) (hf : ∀ k, S' k → S k ∨ w2.heap.size ≤ k) (hb : Below w.heap.size w w2) (hc : Chg (fun k => k = w.heap.size + 2) w3 w9) (hlt : ∀ k, S k → k < w.heap.size) : After q lim S w w9 a n c zs := by
  have hk4 : ∀ k, (Value.slice a n c).ownBlock = some k → w.heap.size + 4 ≤ k ∧ k < w2.heap.size := fun k hk => by
    have := hR.own.lt k hk
    have := hc2.size
    omega
  refine ⟨S', hQ.chg hc (fun k hk e => ?_), ?_, fun k hk hs => ?_, ⟨hc.os.trans (hc3.os.trans hb.os), hc.tape.trans (hc3.tape.trans hb.tape), hc.output.trans (hc3.output.trans hb.output), Nat.le_trans hb.size (Nat.le_trans hc3.size hc.size), fun k hk hn => ?_⟩, fun k hk => ?_⟩
  · have e' : k = w.heap.size + 2 := e
    rcases hf k hk with h | h
    · have := hlt k h; omega
    · omega
  · have r1 := hR.chg hc2 (fun k hk e => by have := (hk4 k hk).1; have : k = w.heap.size + 3 := e; omega)
    have r2 := r1.chg hc3 (fun k hk hs => by have := (hk4 k hk).1; have := hlt k hs; omega)
    have r3 := r2.chg hc (fun k hk e => by have := (hk4 k hk).1; have : k = w.heap.size + 2 := e; omega)
    exact ⟨owns_mono r3.own (Nat.zero_le _), r3.len, r3.nil⟩
  · have := hk4 k hk
    rcases hf k hs with h | h
    · have := hlt k h; omega
    · omega
  · exact (hc.block k (by have := hb.size; have := hc3.size; omega) (fun e => by have : k = w.heap.size + 2 := e; omega)).trans ((hc3.block k (by have := hb.size; omega) hn).trans (hb.block k hk))
  · rcases hf k hk with h | h
    · exact .inl h
    · have := hb.size; exact .inr (by omega)
end
end Go.Proofs.Ytahaclglkbgpcaa
