/- Queues of jobs: New, At, Put; a queue that was only pushed to. -/
import Derived.Test.YtahaclglkbgpcaaJq6
set_option linter.unusedVariables false
set_option linter.unusedSimpArgs false
namespace Go.Proofs.Ytahaclglkbgpcaa
open Go.RowKit
open Go.Proofs.YtahaclglkbgpcaaW.PrintWords (Kd Drawn0 Kept rd rdOf)
open Go.Proofs.Ytahaclglkbgpcaa.PFifoJobs
set_option maxRecDepth 100000

theorem jnew_ok (lim : Nat) (w : World) (h0 : 1 ≤ lim) (h1 : lim ≤ 4096) :
    Calls Try.prog 22 #[.int .i64 lim] w fun e w' => e = .returned (.tuple #[.pointer (some ⟨w.heap.size, 0, none⟩), .nilIface]) ∧ JN w' w.heap.size lim ∧ Below w.heap.size w w' := by
  have t0 : decide ((lim : Int) < 1) = false := by simp; omega
  have t1 : decide ((4096 : Int) < lim) = false := by simp; omega
  go_enter Try.func22, Try.ntmps22
  go_wp2_with fail
  go_ret2
  exact ⟨rfl, ⟨heap_alloc_new w _, h1⟩, (Below.refl _ w).alloc (Nat.le_refl _) _⟩

theorem box_frozen {W : World} {b : Nat} {x : Jb} (h : W.heap[b]? = some (.cells #[.int .i64 x.f0, .int .i64 x.f1, .int .i64 x.f2, .int .i64 x.f3] 48 (0, 0))) (i : Nat) : W.frozen? ⟨b, i, none⟩ = false := by
  simp [World.frozen?, h]
theorem heap_alloc_old (w : World) (o : Obj) {k : Nat} (hk : k < w.heap.size) : (w.alloc o).heap[k]? = w.heap[k]? := ((Below.refl w.heap.size w).alloc (Nat.le_refl _) o).block k hk

theorem jat_none (q : Nat) (i many : Int) (w : World) (c2 : w.cell? ⟨q, 2, none⟩ = some (.int .i64 many)) (h0 : 0 ≤ i) (h1 : many ≤ i) :
    Calls Try.prog 60 #[.pointer (some ⟨q, 0, none⟩), .int .i64 i] w fun e w' => e = .returned (.tuple #[.agg #[.int .i64 0, .int .i64 0, .int .i64 0, .int .i64 0], .bool false]) ∧ Below w.heap.size w w' := by
  obtain ⟨W0, hW0⟩ : ∃ y, y = (w.alloc (.cells #[.int .i64 0, .int .i64 0, .int .i64 0, .int .i64 0] 48)).alloc (.cells #[.int .i64 0, .int .i64 0, .int .i64 0, .int .i64 0] 48) := ⟨_, rfl⟩
  have hB0 : Below w.heap.size w W0 := by rw [hW0]; exact ((Below.refl _ w).alloc (Nat.le_refl _) _).alloc (by simp) _
  have k4 : W0.heap[w.heap.size]? = some (.cells #[.int .i64 zJ.f0, .int .i64 zJ.f1, .int .i64 zJ.f2, .int .i64 zJ.f3] 48 (0, 0)) := by rw [hW0, heap_alloc_old _ _ (by simp)]; exact heap_alloc_new w _
  have k6 : W0.heap[w.heap.size + 1]? = some (.cells #[.int .i64 zJ.f0, .int .i64 zJ.f1, .int .i64 zJ.f2, .int .i64 zJ.f3] 48 (0, 0)) := by
    have := heap_alloc_new (w.alloc (.cells #[.int .i64 0, .int .i64 0, .int .i64 0, .int .i64 0] 48)) (.cells #[.int .i64 0, .int .i64 0, .int .i64 0, .int .i64 0] 48)
    rw [show (w.alloc (.cells #[.int .i64 0, .int .i64 0, .int .i64 0, .int .i64 0] 48)).heap.size = w.heap.size + 1 by simp] at this
    rw [hW0]; exact this
  obtain ⟨y0, y1, y2, y3⟩ := box_cells k4
  obtain ⟨z0, z1, z2, z3⟩ := box_cells k6
  have g0 := box_frozen k4 0
  have g1 := box_frozen k4 1
  have g2 := box_frozen k4 2
  have g3 := box_frozen k4 3
  have HW0 := Lib.hid hW0
  have HB0 := Lib.hid hB0
  clear k4 k6 hW0
  have HH := Lib.hid (jhas_hi q i many W0 (keep hB0 c2) h0 h1)
  clear hB0 c2
  go_enter Try.func60, Try.ntmps60
  go_wp2_with fail
  rw [← HW0.out]
  generalize hbw : w.heap.size = bw at *
  refine HH.out.mono ?_
  rintro e w1 ⟨rfl, rfl⟩
  go_wp2
  refine bodyPost_ret (v := .tuple #[.agg #[.int .i64 0, .int .i64 0, .int .i64 0, .int .i64 0], .bool false]) (by simp [results, Try.results60, go_sem, y0, y1, y2, y3, z0, z1, z2, z3]) rfl ⟨rfl, ?_⟩
  rw [hbw]
  exact (((HB0.out.setCell (p := ⟨bw, 0, none⟩) (Nat.le_refl _) _).setCell (p := ⟨bw, 1, none⟩) (Nat.le_refl _) _).setCell (p := ⟨bw, 2, none⟩) (Nat.le_refl _) _).setCell (p := ⟨bw, 3, none⟩) (Nat.le_refl _) _

theorem jat_some (q g n cap first many lim i : Nat) (rs : List Jb) (x : Jb) (w : World) (h : JQ w q g n cap first many lim rs) (hm : i < many) (hx : rs[(first + i) % n]? = some x) :
    Calls Try.prog 60 #[.pointer (some ⟨q, 0, none⟩), .int .i64 i] w fun e w' => e = .returned (.tuple #[.agg #[.int .i64 x.f0, .int .i64 x.f1, .int .i64 x.f2, .int .i64 x.f3], .bool true]) ∧ Below w.heap.size w w' := by
  obtain ⟨W0, hW0⟩ : ∃ y, y = (w.alloc (.cells #[.int .i64 0, .int .i64 0, .int .i64 0, .int .i64 0] 48)).alloc (.cells #[.int .i64 0, .int .i64 0, .int .i64 0, .int .i64 0] 48) := ⟨_, rfl⟩
  have hB0 : Below w.heap.size w W0 := by rw [hW0]; exact ((Below.refl _ w).alloc (Nat.le_refl _) _).alloc (by simp) _
  have k4 : W0.heap[w.heap.size]? = some (.cells #[.int .i64 zJ.f0, .int .i64 zJ.f1, .int .i64 zJ.f2, .int .i64 zJ.f3] 48 (0, 0)) := by rw [hW0, heap_alloc_old _ _ (by simp)]; exact heap_alloc_new w _
  have k6 : W0.heap[w.heap.size + 1]? = some (.cells #[.int .i64 zJ.f0, .int .i64 zJ.f1, .int .i64 zJ.f2, .int .i64 zJ.f3] 48 (0, 0)) := by
    have := heap_alloc_new (w.alloc (.cells #[.int .i64 0, .int .i64 0, .int .i64 0, .int .i64 0] 48)) (.cells #[.int .i64 0, .int .i64 0, .int .i64 0, .int .i64 0] 48)
    rw [show (w.alloc (.cells #[.int .i64 0, .int .i64 0, .int .i64 0, .int .i64 0] 48)).heap.size = w.heap.size + 1 by simp] at this
    rw [hW0]; exact this
  obtain ⟨y0, y1, y2, y3⟩ := box_cells k4
  obtain ⟨z0, z1, z2, z3⟩ := box_cells k6
  have g0 := box_frozen k4 0
  have g1 := box_frozen k4 1
  have g2 := box_frozen k4 2
  have g3 := box_frozen k4 3
  have HW0 := Lib.hid hW0
  have HB0 := Lib.hid hB0
  clear k4 k6 hW0
  replace h := h.below hB0
  have c0 := h.c0
  have c2 := h.c2
  have HH := Lib.hid (jhas_t q i many W0 c2 (by omega) (by omega))
  obtain ⟨x0, x1, x2, x3⟩ := h.cells hx
  have B := h.at_any i (by have := h.many_le; omega)
  have hjn : (first + i) % n < n := Nat.mod_lt _ (by have := h.f_lt; omega)
  have b4 := h.small
  generalize (first + i) % n = j at x0 x1 x2 x3 B hjn
  have HB := Lib.hid B
  clear B h hx hm hB0
  go_enter Try.func60, Try.ntmps60
  go_wp2_with fail
  rw [← HW0.out]
  generalize hbw : w.heap.size = bw at *
  refine HH.out.mono ?_
  rintro e w1 ⟨rfl, rfl⟩
  go_wp2_with fail
  go_region_law (first
    | (go_simp; go_at_call 56; refine (HB.out (World.drew W0) rfl).mono ?_; rintro e w' ⟨rfl, d, rfl⟩))
  all_goals
    go_wp2
    refine bodyPost_ret (v := .tuple #[.agg #[.int .i64 x.f0, .int .i64 x.f1, .int .i64 x.f2, .int .i64 x.f3], .bool true]) (by simp [results, Try.results60, go_sem, y0, y1, y2, y3]) rfl ⟨rfl, ?_⟩
    rw [hbw]
    exact ((((below_drewN' HB0.out _).setCell (p := ⟨bw, 0, none⟩) (Nat.le_refl _) _).setCell (p := ⟨bw, 1, none⟩) (Nat.le_refl _) _).setCell (p := ⟨bw, 2, none⟩) (Nat.le_refl _) _).setCell (p := ⟨bw, 3, none⟩) (Nat.le_refl _) _

/-- A queue whose first job is the ring's first; its blocks are among S. -/
def JS (w : World) (q lim : Nat) (xs : List Jb) (S : Nat → Prop) : Prop :=
  (S q ∧ ∀ k, S k → k < w.heap.size) ∧ ((xs = [] ∧ JN w q lim) ∨ ∃ g n cap rs, JQ w q g n cap 0 xs.length lim rs ∧ jl rs n 0 xs.length = xs ∧ S g)
section
variable {w w' : World} {q lim : Nat} {xs : List Jb} {S : Nat → Prop}
theorem JS.chg (h : JS w q lim xs S) {T : Nat → Prop} (hc : Chg T w w') (hT : ∀ k, T k → ¬ S k) : JS w' q lim xs S := by
  have hn : ∀ k, S k → ¬ T k := fun k s t => hT k t s
  refine ⟨⟨h.1.1, fun k s => Nat.lt_of_lt_of_le (h.1.2 k s) hc.size⟩, h.2.imp (fun k => ⟨k.1, k.2.chg hc (hn _ h.1.1)⟩) ?_⟩
  rintro ⟨g, n, cap, rs, h1, h2, h3⟩
  exact ⟨g, n, cap, rs, h1.chg hc (hn _ h.1.1) (hn _ h3), h2, h3⟩
theorem JS.below (h : JS w q lim xs S) (hb : Below w.heap.size w w') : JS w' q lim xs S := h.chg (Chg.ofBelow hb (fun _ => False)) (fun _ f => f.elim)
theorem JS.lt (h : JS w q lim xs S) : q < w.heap.size := h.1.2 _ h.1.1
theorem JS.blk (h : JS w q lim xs S) : ∃ r, w.heap[q]? = some (.cells #[r, .int .i64 0, .int .i64 (xs.length : Int), .int .i64 (lim : Int)] 105 (0, 0)) := by
  rcases h.2 with ⟨rfl, h1⟩ | ⟨g, n, cap, rs, h1, -⟩
  · exact ⟨_, h1.blk⟩
  · exact ⟨_, h1.blk⟩
theorem JS.c2 (h : JS w q lim xs S) : w.cell? ⟨q, 2, none⟩ = some (.int .i64 (xs.length : Int)) := by
  obtain ⟨r, e⟩ := h.blk
  simp [World.cell?, e]
theorem JS.c3 (h : JS w q lim xs S) : w.cell? ⟨q, 3, none⟩ = some (.int .i64 (lim : Int)) := by
  obtain ⟨r, e⟩ := h.blk
  simp [World.cell?, e]
theorem JS.lim_le (h : JS w q lim xs S) : lim ≤ 4096 := by
  rcases h.2 with ⟨rfl, h1⟩ | ⟨g, n, cap, rs, h1, -⟩
  · exact h1.lim_le
  · exact h1.lim_le
theorem JS.len_le (h : JS w q lim xs S) : xs.length ≤ lim := by
  rcases h.2 with ⟨rfl, h1⟩ | ⟨g, n, cap, rs, h1, -⟩
  · simp
  · have := h1.many_le; have := h1.n_le; omega
/-- What a step leaves: the blocks that were there, and new ones. -/
def Aft (S : Nat → Prop) (w w' : World) (k : Nat) : Prop := S k ∨ (w.heap.size ≤ k ∧ k < w'.heap.size)
end
theorem jl_push {rs : List Jb} {n m : Nat} (x : Jb) (hl : rs.length = n) (hm : m < n) : jl (rs.set m x) n 0 (m + 1) = jl rs n 0 m ++ [x] := by
  rw [jl_succ]
  congr 1
  · apply List.map_congr_left
    intro j hj
    have hj' : j < m := by simpa using hj
    have e : (0 + j) % n = j := by rw [Nat.zero_add]; exact Nat.mod_eq_of_lt (by omega)
    rw [e, List.getD_eq_getElem?_getD, List.getD_eq_getElem?_getD, List.getElem?_set_ne (by omega)]
  · have e : (0 + m) % n = m := by rw [Nat.zero_add]; exact Nat.mod_eq_of_lt hm
    rw [e, List.getD_eq_getElem?_getD, List.getElem?_set_self (by omega)]
    rfl
theorem jpush_ok (q lim : Nat) (xs : List Jb) (S : Nat → Prop) (x : Jb) (w : World) (h : JS w q lim xs S) (hm : xs.length < lim) :
    Calls Try.prog 23 #[.pointer (some ⟨q, 0, none⟩), .agg #[.int .i64 x.f0, .int .i64 x.f1, .int .i64 x.f2, .int .i64 x.f3]] w fun e w' => e = .returned .nilIface ∧ JS w' q lim (xs ++ [x]) (Aft S w w') ∧ Chg S w w' := by
  obtain ⟨⟨hq, hS⟩, ⟨rfl, h1⟩ | ⟨g, n, cap, rs, h1, h2, h3⟩⟩ := h
  · refine (jpush_first q lim x w h1 (by simpa using hm)).mono ?_
    rintro e w' ⟨rfl, g', n', cap', rs', k1, k2, k3, k4⟩
    refine ⟨rfl, ⟨⟨.inl hq, ?_⟩, .inr ⟨g', n', cap', rs', k1, k2, .inr ⟨k3, k1.ltg⟩⟩⟩, k4.mono (fun k _ e => by have e' : k = q := e; rw [e']; exact hq)⟩
    rintro k (s | s)
    · exact Nat.lt_of_lt_of_le (hS k s) k4.size
    · exact s.2
  · rcases Nat.lt_or_ge xs.length n with h4 | h4
    · refine (jpush_room q g n cap 0 xs.length lim rs x w h1 h4).mono ?_
      rintro e w' ⟨rfl, k1, k2⟩
      have e0 : (0 + xs.length) % n = xs.length := by rw [Nat.zero_add]; exact Nat.mod_eq_of_lt h4
      rw [e0] at k1
      refine ⟨rfl, ⟨⟨.inl hq, ?_⟩, .inr ⟨g, n, cap, _, by simpa using k1, ?_, .inl h3⟩⟩, k2.mono (fun k _ e => by rcases e with e | e <;> rw [e] <;> assumption)⟩
      · rintro k (s | s)
        · exact Nat.lt_of_lt_of_le (hS k s) k2.size
        · exact s.2
      · rw [List.length_append, List.length_singleton, jl_push x h1.len h4, h2]
    · have e : n = xs.length := by have := h1.many_le; omega
      subst e
      refine (jpush_grow q g xs.length cap 0 lim rs x w h1 hm).mono ?_
      rintro e w' ⟨rfl, g', n', cap', rs', k1, k2, k3, k4⟩
      rw [h2] at k2
      refine ⟨rfl, ⟨⟨.inl hq, ?_⟩, .inr ⟨g', n', cap', rs', by simpa using k1, by simpa using k2, .inr ⟨k3, k1.ltg⟩⟩⟩, k4.mono (fun k _ e => by have e' : k = q := e; rw [e']; exact hq)⟩
      rintro k (s | s)
      · exact Nat.lt_of_lt_of_le (hS k s) k4.size
      · exact s.2
theorem JS.list {w : World} {q lim : Nat} {xs : List Jb} {S : Nat → Prop} (h : JS w q lim xs S) :
    Calls Try.prog 55 #[.pointer (some ⟨q, 0, none⟩)] w fun e w' => ∃ v, e = .returned v ∧ kJ.R 48 w' w.heap.size (fun _ => True) v xs ∧ Below w.heap.size w w' := by
  rcases h.2 with ⟨rfl, h1⟩ | ⟨g, n, cap, rs, h1, h2, -⟩
  · refine (jlist_none q w h1.c2).mono ?_
    rintro e w' ⟨rfl, rfl⟩
    exact ⟨_, rfl, Kd.R_nil _ _ _ _ _, Below.refl _ _⟩
  · refine (jlist_some q g n cap 0 xs.length lim rs w h1).mono ?_
    rintro e w' ⟨v, rfl, k1, k2⟩
    rw [h2] at k1
    exact ⟨v, rfl, k1, k2⟩

end Go.Proofs.Ytahaclglkbgpcaa
