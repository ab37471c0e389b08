/- Queues of jobs: what asks no memory. Printed by gen_jq1.py (this repo's) in part. -/
import Derived.Test.YtahaclglkbgpcaaPFifoJobsx0
import Derived.Test.YtahaclglkbgpcaaFq0
set_option linter.unusedVariables false
set_option linter.unusedSimpArgs false
namespace Go.Proofs.Ytahaclglkbgpcaa
open Go.RowKit
open Go.Proofs.YtahaclglkbgpcaaW.PrintWords (Kd Drawn0 Kept rd rdOf)
open Go.Proofs.Ytahaclglkbgpcaa.PFifoJobs
set_option maxRecDepth 100000

theorem Chg.setCell {S : Nat → Prop} {a b : World} (h : Chg S a b) (p : Addr) (v : Value) (hp : S p.block) : Chg S a (b.setCell p v) :=
  h.trans ⟨rfl, rfl, rfl, by simp, fun k _ hn => heap_setCell_other b p k v (fun e => hn (by first | (rw [e]; exact hp) | (rw [← e]; exact hp)))⟩

abbrev Jb := S48
abbrev kJ := k48
abbrev zJ : Jb := ⟨0, 0, 0, 0⟩
abbrev cJ (x : Jb) : List Value := [.int .i64 x.f0, .int .i64 x.f1, .int .i64 x.f2, .int .i64 x.f3]

/-- A queue of jobs with a ring. -/
structure JQ (w : World) (q g n cap first many lim : Nat) (rs : List Jb) : Prop where
  blk : w.heap[q]? = some (.cells #[.slice (some ⟨g, 0, none⟩) n cap, .int .i64 (first : Int), .int .i64 (many : Int), .int .i64 (lim : Int)] 105 (0, 0))
  row : kJ.R 48 w 0 (fun k => k = g) (.slice (some ⟨g, 0, none⟩) n cap) rs
  ne : g ≠ q
  f_lt : first < n
  many_le : many ≤ n
  n_le : n ≤ lim
  lim_le : lim ≤ 4096
/-- A queue of jobs with none yet. -/
structure JN (w : World) (q lim : Nat) : Prop where
  blk : w.heap[q]? = some (.cells #[.slice none 0 0, .int .i64 0, .int .i64 0, .int .i64 (lim : Int)] 105 (0, 0))
  lim_le : lim ≤ 4096
/-- The first k jobs. -/
def jl (rs : List Jb) (n first k : Nat) : List Jb := (List.range k).map fun j => rs.getD ((first + j) % n) zJ
theorem jl_length (rs : List Jb) (n first k : Nat) : (jl rs n first k).length = k := by simp [jl]
theorem jl_succ (rs : List Jb) (n first k : Nat) : jl rs n first (k + 1) = jl rs n first k ++ [rs.getD ((first + k) % n) zJ] := by simp [jl, List.range_succ]

section
variable {w w' : World} {q g n cap first many lim : Nat} {rs : List Jb}
theorem JQ.c0 (h : JQ w q g n cap first many lim rs) : w.cell? ⟨q, 0, none⟩ = some (.slice (some ⟨g, 0, none⟩) n cap) := by simp [World.cell?, h.blk]
theorem JQ.c1 (h : JQ w q g n cap first many lim rs) : w.cell? ⟨q, 1, none⟩ = some (.int .i64 (first : Int)) := by simp [World.cell?, h.blk]
theorem JQ.c2 (h : JQ w q g n cap first many lim rs) : w.cell? ⟨q, 2, none⟩ = some (.int .i64 (many : Int)) := by simp [World.cell?, h.blk]
theorem JQ.c3 (h : JQ w q g n cap first many lim rs) : w.cell? ⟨q, 3, none⟩ = some (.int .i64 (lim : Int)) := by simp [World.cell?, h.blk]
theorem JQ.fz (h : JQ w q g n cap first many lim rs) (o : Nat) : w.frozen? ⟨q, o, none⟩ = false := by simp [World.frozen?, h.blk]
theorem JQ.lt (h : JQ w q g n cap first many lim rs) : q < w.heap.size := (Array.getElem?_eq_some_iff.1 h.blk).1
theorem JQ.ltg (h : JQ w q g n cap first many lim rs) : g < w.heap.size := Kd.R_lt h.row g rfl
theorem JQ.len (h : JQ w q g n cap first many lim rs) : rs.length = n := (Kd.R_reads' h.row).1.symm
theorem JQ.le (h : JQ w q g n cap first many lim rs) : n ≤ cap := (Kd.R_reads' h.row).2.1
theorem JQ.elem (h : JQ w q g n cap first many lim rs) {i : Nat} {x : Jb} (hx : rs[i]? = some x) :
    (∀ j u, (cJ x)[j]? = some u → w.cell? ⟨g, i * 4 + j, none⟩ = some u) ∧ ∀ j, w.frozen? ⟨g, i * 4 + j, none⟩ = false := by
  have hi : i < rs.length := (List.getElem?_eq_some_iff.1 hx).1
  have hl := h.len
  obtain ⟨c, h1, h2, h3, h4⟩ := Kd.R_elem h.row zJ (i : Int) (by omega) (by omega)
  have e : rs.getD (i : Int).toNat zJ = x := by
    rw [List.getD_eq_getElem?_getD]; simp [hx]
  rw [e] at h2
  have h2' := k48_openM h2
  subst h2'
  exact ⟨fun j u hj => h3 j u hj, fun j => h4 j⟩
theorem JQ.cells (h : JQ w q g n cap first many lim rs) {i : Nat} {x : Jb} (hx : rs[i]? = some x) :
    w.cell? ⟨g, i * 4, none⟩ = some (.int .i64 x.f0) ∧ w.cell? ⟨g, i * 4 + 1, none⟩ = some (.int .i64 x.f1) ∧ w.cell? ⟨g, i * 4 + 2, none⟩ = some (.int .i64 x.f2) ∧ w.cell? ⟨g, i * 4 + 3, none⟩ = some (.int .i64 x.f3) :=
  ⟨(h.elem hx).1 0 _ rfl, (h.elem hx).1 1 _ rfl, (h.elem hx).1 2 _ rfl, (h.elem hx).1 3 _ rfl⟩
theorem JQ.frozen (h : JQ w q g n cap first many lim rs) {i : Nat} {x : Jb} (hx : rs[i]? = some x) :
    w.frozen? ⟨g, i * 4, none⟩ = false ∧ w.frozen? ⟨g, i * 4 + 1, none⟩ = false ∧ w.frozen? ⟨g, i * 4 + 2, none⟩ = false ∧ w.frozen? ⟨g, i * 4 + 3, none⟩ = false :=
  ⟨(h.elem hx).2 0, (h.elem hx).2 1, (h.elem hx).2 2, (h.elem hx).2 3⟩
theorem JQ.chg (h : JQ w q g n cap first many lim rs) {S : Nat → Prop} (hc : Chg S w w') (h1 : ¬ S q) (h2 : ¬ S g) : JQ w' q g n cap first many lim rs :=
  ⟨hc.heap h.blk h1, Kd.R_step h.row (fun k hk hlt => by obtain rfl : k = g := hk; exact hc.block _ hlt h2), h.ne, h.f_lt, h.many_le, h.n_le, h.lim_le⟩
theorem JQ.chgA (h : JQ w q g n cap first many lim rs) (hc : Chg (fun _ => False) w w') : JQ w' q g n cap first many lim rs := h.chg hc (fun f => f) (fun f => f)
theorem JQ.below (h : JQ w q g n cap first many lim rs) (hb : Below w.heap.size w w') : JQ w' q g n cap first many lim rs :=
  h.chg (Chg.ofBelow hb (fun _ => False)) (fun f => f) (fun f => f)
theorem JQ.heap (h : JQ w q g n cap first many lim rs) (e : w'.heap = w.heap) : JQ w' q g n cap first many lim rs :=
  ⟨by rw [e]; exact h.blk, Kd.R_step h.row (fun k hk hlt => by rw [e]), h.ne, h.f_lt, h.many_le, h.n_le, h.lim_le⟩
theorem JQ.set (h : JQ w q g n cap first many lim rs) {i : Nat} (hi : i < n) (x' : Jb) :
    JQ ((((w.setCell ⟨g, i * 4, none⟩ (.int .i64 x'.f0)).setCell ⟨g, i * 4 + 1, none⟩ (.int .i64 x'.f1)).setCell ⟨g, i * 4 + 2, none⟩ (.int .i64 x'.f2)).setCell ⟨g, i * 4 + 3, none⟩ (.int .i64 x'.f3)) q g n cap first many lim (rs.set i x') := by
  have hl := h.len
  have hx : rs[i]? = some (rs[i]'(by omega)) := List.getElem?_eq_getElem (by omega)
  have r := Kd.R_seg (okp := fun _ => False) h.row (i : Int) (by omega) (by omega) (c := cJ (rs[i]'(by omega))) (seg := cJ x') (j := 0) rfl
    (fun j' u hu => (h.elem hx).1 j' u hu) (by show 0 + 4 ≤ 4; omega) (x' := x') (k48_mkM _ _ _ _) (fun k f => f.elim)
  have e : w.setCells g ((i : Int).toNat * kJ.sz + 0) (cJ x') = ((((w.setCell ⟨g, i * 4, none⟩ (.int .i64 x'.f0)).setCell ⟨g, i * 4 + 1, none⟩ (.int .i64 x'.f1)).setCell ⟨g, i * 4 + 2, none⟩ (.int .i64 x'.f2)).setCell ⟨g, i * 4 + 3, none⟩ (.int .i64 x'.f3)) := rfl
  rw [e] at r
  refine ⟨?_, by simpa using r.1, h.ne, h.f_lt, h.many_le, h.n_le, h.lim_le⟩
  have hn : q ≠ g := fun e => h.ne e.symm
  rw [Below.heap_setCell _ _ _ _ (by exact hn), Below.heap_setCell _ _ _ _ (by exact hn), Below.heap_setCell _ _ _ _ (by exact hn), Below.heap_setCell _ _ _ _ (by exact hn)]
  exact h.blk
theorem JQ.set1 (h : JQ w q g n cap first many lim rs) (f : Nat) (hf : f < n) : JQ (w.setCell ⟨q, 1, none⟩ (.int .i64 (f : Int))) q g n cap f many lim rs :=
  ⟨heap_setCell_same w q 1 _ _ (.int .i64 (f : Int)) h.blk, Kd.R_step h.row (fun k hk _ => by obtain rfl : k = g := hk; exact Below.heap_setCell _ _ _ _ h.ne), h.ne, hf, h.many_le, h.n_le, h.lim_le⟩
theorem JQ.set2 (h : JQ w q g n cap first many lim rs) (m : Nat) (hm : m ≤ n) : JQ (w.setCell ⟨q, 2, none⟩ (.int .i64 (m : Int))) q g n cap first m lim rs :=
  ⟨heap_setCell_same w q 2 _ _ (.int .i64 (m : Int)) h.blk, Kd.R_step h.row (fun k hk _ => by obtain rfl : k = g := hk; exact Below.heap_setCell _ _ _ _ h.ne), h.ne, h.f_lt, hm, h.n_le, h.lim_le⟩
theorem JQ.at (h : JQ w q g n cap first many lim rs) (i : Nat) : ∃ x, rs[(first + i) % n]? = some x ∧ rs.getD ((first + i) % n) zJ = x := by
  have hl := h.len
  have hj : (first + i) % n < rs.length := by rw [hl]; exact Nat.mod_lt _ (by have := h.f_lt; omega)
  exact ⟨_, List.getElem?_eq_getElem hj, by simp [List.getD, List.getElem?_eq_getElem hj]⟩
theorem JN.c0 (h : JN w q lim) : w.cell? ⟨q, 0, none⟩ = some (.slice none 0 0) := by simp [World.cell?, h.blk]
theorem JN.c1 (h : JN w q lim) : w.cell? ⟨q, 1, none⟩ = some (.int .i64 0) := by simp [World.cell?, h.blk]
theorem JN.c2 (h : JN w q lim) : w.cell? ⟨q, 2, none⟩ = some (.int .i64 0) := by simp [World.cell?, h.blk]
theorem JN.c3 (h : JN w q lim) : w.cell? ⟨q, 3, none⟩ = some (.int .i64 (lim : Int)) := by simp [World.cell?, h.blk]
theorem JN.fz (h : JN w q lim) (o : Nat) : w.frozen? ⟨q, o, none⟩ = false := by simp [World.frozen?, h.blk]
theorem JN.lt (h : JN w q lim) : q < w.heap.size := (Array.getElem?_eq_some_iff.1 h.blk).1
theorem JN.chg (h : JN w q lim) {S : Nat → Prop} (hc : Chg S w w') (h1 : ¬ S q) : JN w' q lim := ⟨hc.heap h.blk h1, h.lim_le⟩
theorem JN.chgA (h : JN w q lim) (hc : Chg (fun _ => False) w w') : JN w' q lim := h.chg hc (fun f => f)
theorem JN.below (h : JN w q lim) (hb : Below w.heap.size w w') : JN w' q lim := h.chg (Chg.ofBelow hb (fun _ => False)) (fun f => f)
theorem JN.heap (h : JN w q lim) (e : w'.heap = w.heap) : JN w' q lim := ⟨by rw [e]; exact h.blk, h.lim_le⟩
/-- A ring of its own, first at 0. -/
theorem JQ.ring0 {W : World} {q g n cap lim : Nat} {rs : List Jb} {v : Value} {f0 m0 : Int} (hb : W.heap[q]? = some (.cells #[v, .int .i64 f0, .int .i64 m0, .int .i64 (lim : Int)] 105 (0, 0))) (many : Nat) (hm0 : m0 = many)
    (hr : kJ.R 48 W 0 (fun k => k = g) (.slice (some ⟨g, 0, none⟩) n cap) rs) (hne : g ≠ q) (h0 : 0 < n) (hm : many ≤ n) (hl : n ≤ lim) (h4 : lim ≤ 4096) :
    JQ ((W.setCell ⟨q, 0, none⟩ (.slice (some ⟨g, 0, none⟩) n cap)).setCell ⟨q, 1, none⟩ (.int .i64 0)) q g n cap 0 many lim rs := by
  subst hm0
  have h1 := heap_setCell_same W q 0 _ _ (.slice (some ⟨g, 0, none⟩) n cap) hb
  have h2 := heap_setCell_same _ q 1 _ _ (.int .i64 0) h1
  exact ⟨h2, Kd.R_step hr (fun k hk _ => by obtain rfl : k = g := hk; rw [Below.heap_setCell _ _ _ _ hne, Below.heap_setCell _ _ _ _ hne]), hne, h0, hm, hl, h4⟩
end

theorem jhas_t (q : Nat) (i many : Int) (w : World) (c2 : w.cell? ⟨q, 2, none⟩ = some (.int .i64 many)) (h0 : 0 ≤ i) (h1 : i < many) :
    Calls Try.prog 76 #[.pointer (some ⟨q, 0, none⟩), .int .i64 i] w fun e w' => e = .returned (.bool true) ∧ w = w' := by
  have t0 : decide (0 ≤ i) = true := by simpa
  have t1 : decide (i < many) = true := by simpa
  go_enter Try.func76, Try.ntmps76
  go_wp2_with fail
  go_ret
  exact ⟨rfl, rfl⟩

theorem jhas_lo (q : Nat) (i : Int) (w : World) (h0 : i < 0) :
    Calls Try.prog 76 #[.pointer (some ⟨q, 0, none⟩), .int .i64 i] w fun e w' => e = .returned (.bool false) ∧ w = w' := by
  have t0 : decide (0 ≤ i) = false := by simp; omega
  clear h0
  go_enter Try.func76, Try.ntmps76
  go_wp2_with fail
  go_ret
  exact ⟨rfl, rfl⟩

theorem jhas_hi (q : Nat) (i many : Int) (w : World) (c2 : w.cell? ⟨q, 2, none⟩ = some (.int .i64 many)) (h0 : 0 ≤ i) (h1 : many ≤ i) :
    Calls Try.prog 76 #[.pointer (some ⟨q, 0, none⟩), .int .i64 i] w fun e w' => e = .returned (.bool false) ∧ w = w' := by
  have t0 : decide (0 ≤ i) = true := by simpa
  have t1 : decide (i < many) = false := by simp; omega
  clear h1
  go_enter Try.func76, Try.ntmps76
  go_wp2_with fail
  go_ret
  exact ⟨rfl, rfl⟩

theorem jhas_nil (i : Int) (w : World) :
    Calls Try.prog 76 #[.pointer none, .int .i64 i] w fun e w' => e = .returned (.bool false) ∧ w = w' := by
  go_enter Try.func76, Try.ntmps76
  go_wp2_with fail
  go_ret
  exact ⟨rfl, rfl⟩

theorem jat_q (q : Nat) (ra : Option Addr) (cap' : Nat) (i first cap : Nat) (w : World) (h1 : cap ≤ 4096) (h2 : first < cap) (h3 : i ≤ cap)
  (c0 : w.cell? ⟨q, 0, none⟩ = some (.slice ra cap cap')) (c1 : w.cell? ⟨q, 1, none⟩ = some (.int .i64 first)) :
    Calls Try.prog 56 #[.pointer (some ⟨q, 0, none⟩), .int .i64 i] w fun e w' => e = .returned (.int .i64 (((first + i) % cap : Nat) : Int)) ∧ ∃ d, w' = w.drewN d := by
  have t0 : (((cap : Int)) == 0) = false := by simp; omega
  go_enter Try.func56, Try.ntmps56
  go_wp2_with (go_quiet (fail))
  all_goals go_ret
  all_goals (refine ⟨?_, _, rfl⟩; exact ret_int (by push_cast; rfl))

theorem jat_ok (q : Nat) (ra : Option Addr) (cap' : Nat) (i first cap : Nat) (w : World) (h1 : cap ≤ 4096) (h2 : first < cap) (h3 : i ≤ cap)
  (c0 : w.cell? ⟨q, 0, none⟩ = some (.slice ra cap cap')) (c1 : w.cell? ⟨q, 1, none⟩ = some (.int .i64 first)) :
    Calls Try.prog 56 #[.pointer (some ⟨q, 0, none⟩), .int .i64 i] w fun e w' => e = .returned (.int .i64 (((first + i) % cap : Nat) : Int)) ∧ Below w.heap.size w w' := by
  refine (jat_q q ra cap' i first cap w h1 h2 h3 c0 c1).mono ?_
  rintro e w' ⟨rfl, d, rfl⟩
  exact ⟨rfl, below_drewN' (Below.refl _ w) _⟩

theorem jlen_ok (q : Nat) (many : Int) (w : World) (c2 : w.cell? ⟨q, 2, none⟩ = some (.int .i64 many)) :
    Calls Try.prog 58 #[.pointer (some ⟨q, 0, none⟩)] w fun e w' => e = .returned (.int .i64 many) ∧ w = w' := by
  go_enter Try.func58, Try.ntmps58
  go_wp2_with fail
  go_ret
  exact ⟨rfl, rfl⟩

theorem jlen_nil (w : World) :
    Calls Try.prog 58 #[.pointer none] w fun e w' => e = .returned (.int .i64 0) ∧ w = w' := by
  go_enter Try.func58, Try.ntmps58
  go_wp2_with fail
  go_ret
  exact ⟨rfl, rfl⟩

theorem jlimit_ok (q : Nat) (lim : Int) (w : World) (c3 : w.cell? ⟨q, 3, none⟩ = some (.int .i64 lim)) :
    Calls Try.prog 57 #[.pointer (some ⟨q, 0, none⟩)] w fun e w' => e = .returned (.int .i64 lim) ∧ w = w' := by
  go_enter Try.func57, Try.ntmps57
  go_wp2_with fail
  go_ret
  exact ⟨rfl, rfl⟩

theorem jlimit_nil (w : World) :
    Calls Try.prog 57 #[.pointer none] w fun e w' => e = .returned (.int .i64 0) ∧ w = w' := by
  go_enter Try.func57, Try.ntmps57
  go_wp2_with fail
  go_ret
  exact ⟨rfl, rfl⟩

theorem jroom_ok (q : Nat) (many lim : Nat) (w : World) (c2 : w.cell? ⟨q, 2, none⟩ = some (.int .i64 many)) (c3 : w.cell? ⟨q, 3, none⟩ = some (.int .i64 lim)) (h1 : many ≤ lim) (h2 : lim ≤ 4096) :
    Calls Try.prog 54 #[.pointer (some ⟨q, 0, none⟩)] w fun e w' => e = .returned (.int .i64 ((lim - many : Nat) : Int)) ∧ w = w' := by
  go_enter Try.func54, Try.ntmps54
  go_wp2_with fail
  refine (jlimit_ok q lim w c3).mono ?_
  rintro e w1 ⟨rfl, rfl⟩
  go_wp2_with fail
  refine (jlen_ok q many w c2).mono ?_
  rintro e w1 ⟨rfl, rfl⟩
  go_wp2_with fail
  go_ret
  refine ⟨?_, rfl⟩
  exact ret_int (by omega)

theorem jroom_nil (w : World) :
    Calls Try.prog 54 #[.pointer none] w fun e w' => e = .returned (.int .i64 0) ∧ w = w' := by
  go_enter Try.func54, Try.ntmps54
  go_wp2_with fail
  refine (jlimit_nil w).mono ?_
  rintro e w1 ⟨rfl, rfl⟩
  go_wp2_with fail
  refine (jlen_nil w).mono ?_
  rintro e w1 ⟨rfl, rfl⟩
  go_wp2_with fail
  go_ret
  exact ⟨rfl, rfl⟩

end Go.Proofs.Ytahaclglkbgpcaa
