/- Queues of ints: List. -/
import Derived.Test.YtahaclglkbgpcaaFq1
set_option linter.unusedVariables false
set_option linter.unusedSimpArgs false
namespace Go.Proofs.Ytahaclglkbgpcaa
open Go.RowKit
set_option maxRecDepth 100000

theorem info_int : (Try.prog.info? 3).map (fun i => (i.zero, i.size, i.bytes)) = some (some (.int .i64 0), 1, 8) := by kernel_rfl

/-- The first k elements. -/
def lst (cells : List Value) (n first k : Nat) : List Value := (List.range k).map fun j => cells.getD ((first + j) % n) (.int .i64 0)
theorem lst_length (cells : List Value) (n first k : Nat) : (lst cells n first k).length = k := by simp [lst]
theorem lst_succ (cells : List Value) (n first k : Nat) : lst cells n first (k + 1) = lst cells n first k ++ [cells.getD ((first + k) % n) (.int .i64 0)] := by simp [lst, List.range_succ]

theorem below_grown {B : Nat} {a b c b0 : World} {e : TypeId} {s n : Nat} {v : Value} {xs : List Value} (hB : B ≤ a.heap.size) (h : Below B a b) (hown : b0.ownsRow B e s v n xs) (hg : b.grownBy c v.ownBlock) : Below B a c := by
  refine ⟨hg.os.trans h.os, hg.tape.trans h.tape, hg.output.trans h.output, Nat.le_trans h.size hg.size, fun k hk => (hg.block k (by have := h.size; omega) ?_).trans (h.block k hk)⟩
  intro e
  have := hown.lt k e.symm
  omega

theorem list_some (q g : Nat) (T : TypeId) (n cap first many lim : Nat) (cells : List Value) (w : World) (h : QI w q T 3 (.slice (some ⟨g, 0, none⟩) n cap) n cap first many lim cells) (hf : first < n) (h1 : ∀ u ∈ cells, ∃ z, u = .int .i64 z) :
    Calls Try.prog 14 #[.pointer (some ⟨q, 0, none⟩)] w fun e w' => ∃ v, e = .returned v ∧ w'.ownsRow w.heap.size 3 1 v many (lst cells n first many) ∧ Below w.heap.size w w' := by
  have c2 := h.c2
  have b4 : many ≤ 4096 := by have := h.many_le; have := h.n_le; have := h.lim_le; omega
  obtain ⟨i0, hi, hz0, hz1, hz2⟩ := info_parts info_int
  have HH := Lib.hid h
  clear h
  have H1 := Lib.hid h1
  clear h1
  go_enter Try.func14, Try.ntmps14
  go_wp2_with fail
  refine (len_ok q many w c2).mono ?_
  rintro e w1 ⟨rfl, rfl⟩
  go_wp2_with fail
  clear c2
  go_loopw [3, 7] (fun v i wr => ∃ k : Nat, k ≤ many ∧ i = .int .i64 k ∧ Hid (wr.ownsRow w.heap.size 3 1 v k (lst cells n first k)) ∧ Hid (Below w.heap.size w wr)) (fun _ i _ => many - (intOf i).toNat)
  case atStart => exact ⟨0, Nat.zero_le _, rfl, Lib.hid (World.ownsRow_nil _ _ _ _), Lib.hid (Below.refl _ _)⟩
  case round =>
    obtain ⟨k, hk, rfl, hown, hB⟩ := hrel
    by_cases hlt : k < many
    · have HQ := HH.out.below hB.out
      have c0 := HQ.c0
      have c1 := HQ.c1
      obtain ⟨j, hj⟩ : ∃ j, j = (first + k) % n := ⟨_, rfl⟩
      have hjn : j < n := by rw [hj]; exact Nat.mod_lt _ (by omega)
      have hlen := HQ.len
      obtain ⟨x, hx⟩ : ∃ x, x = cells.getD j (.int .i64 0) := ⟨_, rfl⟩
      have hcell : wr.cell? ⟨g, j, none⟩ = some x := by rw [HQ.own.cellAt j (by omega), hx]; simp [List.getElem?_eq_getElem, hlen, hjn]
      obtain ⟨z, rfl⟩ := H1.out x (by rw [hx]; simp [List.getD, List.getElem?_eq_getElem, hlen, hjn])
      have A : ∀ W : World, W.heap = wr.heap → Calls Try.prog 46 #[.pointer (some ⟨q, 0, none⟩), .int .i64 k] W fun e w' => e = .returned (.int .i64 (j : Int)) ∧ ∃ d, w' = W.drewN d := fun W e => by
        have HW := HQ.heap e
        have := at_q q _ cap k first n W (by have := HQ.n_le; have := HQ.lim_le; omega) hf (by have := HQ.many_le; omega) HW.c0 HW.c1
        rw [← hj] at this
        exact this
      clear HQ
      have HA := Lib.hid A
      clear A
      have HJ := Lib.hid hj
      clear hj
      have HX := Lib.hid hx
      clear hx
      go_wp2_with fail
      go_region_law (first
        | (go_simp; go_at_call 46; refine (HA.out (World.drew wr) rfl).mono ?_; rintro e w' ⟨rfl, d, rfl⟩)
        | (refine step_append_lies _ rfl (.tmp 10) (.tmp 20) 32 rfl w.heap.size 3 i0 (.int .i64 0) 1 8 Try.underlying32 hi hz0 hz1 hz2 rfl (by decide) _ k (lst cells n first k) rfl (hown.out.alloc _) ⟨wr.heap.size, 0, none⟩ 1 1 [.int .i64 z] rfl rfl (cell_one_new _ _ _) (fun u hu => by simp at hu; subst hu; rfl) (by omega) (by unfold maxLen; omega) (by omega) (by have := hB.out.size; simp; omega) _ rfl ?_; intro g' cap' w1 hown1 hgrow1 hat1 hlt1))
      all_goals
        have R1 : w1.ownsRow w.heap.size 3 1 (.slice (some ⟨g', 0, none⟩) (k + 1) cap') (k + 1) (lst cells n first (k + 1)) := by
          rw [lst_succ, ← HJ.out, ← HX.out]; exact hown1
        have R2 : Below w.heap.size w w1 := below_grown (Nat.le_refl _) ((below_drewN' hB.out _).alloc (by have := hB.out.size; simp; omega) _) hown.out hgrow1
        clear hown1 hgrow1 hat1 hlt1
        go_wp2
        go_roundw
        case rel => exact ⟨k + 1, by omega, by go_num, Lib.hid R1, Lib.hid R2⟩
        case measure => simp [intOf]; omega
    · have e : k = many := by omega
      subst e
      go_wp2
      go_ret
      exact ⟨_, rfl, hown.out, hB.out⟩

theorem list_none (q : Nat) (w : World) (c2 : w.cell? ⟨q, 2, none⟩ = some (.int .i64 0)) :
    Calls Try.prog 14 #[.pointer (some ⟨q, 0, none⟩)] w fun e w' => e = .returned (.slice none 0 0) ∧ w = w' := by
  go_enter Try.func14, Try.ntmps14
  go_wp2_with fail
  refine (len_ok q 0 w c2).mono ?_
  rintro e w1 ⟨rfl, rfl⟩
  go_wp2
  go_loop [3, 7] (fun v i => v = .slice none 0 0 ∧ i = .int .i64 0) (fun _ _ => 0)
  case atStart => exact ⟨rfl, rfl⟩
  case round =>
    obtain ⟨rfl, rfl⟩ := hrel
    go_wp2
    go_ret
    exact ⟨rfl, rfl⟩

theorem list_nil (w : World) :
    Calls Try.prog 14 #[.pointer none] w fun e w' => e = .returned (.slice none 0 0) ∧ w = w' := by
  go_enter Try.func14, Try.ntmps14
  go_wp2_with fail
  refine (len_nil w).mono ?_
  rintro e w1 ⟨rfl, rfl⟩
  go_wp2
  go_loop [3, 7] (fun v i => v = .slice none 0 0 ∧ i = .int .i64 0) (fun _ _ => 0)
  case atStart => exact ⟨rfl, rfl⟩
  case round =>
    obtain ⟨rfl, rfl⟩ := hrel
    go_wp2
    go_ret
    exact ⟨rfl, rfl⟩

/-- The elements, whatever the ring. -/
theorem list_ok (q : Nat) (T : TypeId) (ring : Value) (n cap first many lim : Nat) (cells : List Value) (w : World) (h : QI w q T 3 ring n cap first many lim cells) (h1 : ∀ u ∈ cells, ∃ z, u = .int .i64 z) :
    Calls Try.prog 14 #[.pointer (some ⟨q, 0, none⟩)] w fun e w' => ∃ v, e = .returned v ∧ w'.ownsRow w.heap.size 3 1 v many (lst cells n first many) ∧ Below w.heap.size w w' := by
  rcases h.form with ⟨rfl, rfl, rfl⟩ | ⟨g, rfl, hg, hf⟩
  · have hm : many = 0 := by have := h.many_le; omega
    subst hm
    refine (list_none q w h.c2).mono ?_
    rintro e w' ⟨rfl, rfl⟩
    exact ⟨_, rfl, World.ownsRow_nil _ _ _ _, Below.refl _ _⟩
  · exact list_some q g T n cap first many lim cells w h hf h1

end Go.Proofs.Ytahaclglkbgpcaa
