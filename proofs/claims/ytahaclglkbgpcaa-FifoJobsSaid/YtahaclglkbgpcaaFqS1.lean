/- Queues of strings: no memory, Pop, List. -/
import Derived.Test.YtahaclglkbgpcaaFq7
set_option linter.unusedVariables false
set_option linter.unusedSimpArgs false
namespace Go.Proofs.Ytahaclglkbgpcaa
open Go.RowKit
set_option maxRecDepth 100000
namespace St

theorem has_t (q : Nat) (i many : Int) (w : World) (c2 : w.cell? ⟨q, 2, none⟩ = some (.int .i64 many)) (h0 : 0 ≤ i) (h1 : i < many) :
    Calls Try.prog 72 #[.pointer (some ⟨q, 0, none⟩), .int .i64 i] w fun e w' => e = .returned (.bool true) ∧ w = w' := by
  have t0 : decide (0 ≤ i) = true := by simpa
  have t1 : decide (i < many) = true := by simpa
  go_enter Try.func72, Try.ntmps72
  go_wp2_with fail
  go_ret
  exact ⟨rfl, rfl⟩

theorem has_lo (q : Nat) (i : Int) (w : World) (h0 : i < 0) :
    Calls Try.prog 72 #[.pointer (some ⟨q, 0, none⟩), .int .i64 i] w fun e w' => e = .returned (.bool false) ∧ w = w' := by
  have t0 : decide (0 ≤ i) = false := by simp; omega
  clear h0
  go_enter Try.func72, Try.ntmps72
  go_wp2_with fail
  go_ret
  exact ⟨rfl, rfl⟩

theorem has_hi (q : Nat) (i many : Int) (w : World) (c2 : w.cell? ⟨q, 2, none⟩ = some (.int .i64 many)) (h0 : 0 ≤ i) (h1 : many ≤ i) :
    Calls Try.prog 72 #[.pointer (some ⟨q, 0, none⟩), .int .i64 i] w fun e w' => e = .returned (.bool false) ∧ w = w' := by
  have t0 : decide (0 ≤ i) = true := by simpa
  have t1 : decide (i < many) = false := by simp; omega
  clear h1
  go_enter Try.func72, Try.ntmps72
  go_wp2_with fail
  go_ret
  exact ⟨rfl, rfl⟩

theorem has_nil (i : Int) (w : World) :
    Calls Try.prog 72 #[.pointer none, .int .i64 i] w fun e w' => e = .returned (.bool false) ∧ w = w' := by
  go_enter Try.func72, Try.ntmps72
  go_wp2_with fail
  go_ret
  exact ⟨rfl, rfl⟩

theorem at_q (q : Nat) (ra : Option Addr) (cap' : Nat) (i first cap : Nat) (w : World) (h1 : cap ≤ 4096) (h2 : first < cap) (h3 : i ≤ cap)
  (c0 : w.cell? ⟨q, 0, none⟩ = some (.slice ra cap cap')) (c1 : w.cell? ⟨q, 1, none⟩ = some (.int .i64 first)) :
    Calls Try.prog 71 #[.pointer (some ⟨q, 0, none⟩), .int .i64 i] w fun e w' => e = .returned (.int .i64 (((first + i) % cap : Nat) : Int)) ∧ ∃ d, w' = w.drewN d := by
  have t0 : (((cap : Int)) == 0) = false := by simp; omega
  go_enter Try.func71, Try.ntmps71
  go_wp2_with (go_quiet (fail))
  all_goals go_ret
  all_goals (refine ⟨?_, _, rfl⟩; exact ret_int (by push_cast; rfl))

theorem at_ok (q : Nat) (ra : Option Addr) (cap' : Nat) (i first cap : Nat) (w : World) (h1 : cap ≤ 4096) (h2 : first < cap) (h3 : i ≤ cap)
  (c0 : w.cell? ⟨q, 0, none⟩ = some (.slice ra cap cap')) (c1 : w.cell? ⟨q, 1, none⟩ = some (.int .i64 first)) :
    Calls Try.prog 71 #[.pointer (some ⟨q, 0, none⟩), .int .i64 i] w fun e w' => e = .returned (.int .i64 (((first + i) % cap : Nat) : Int)) ∧ Below w.heap.size w w' := by
  refine (at_q q ra cap' i first cap w h1 h2 h3 c0 c1).mono ?_
  rintro e w' ⟨rfl, d, rfl⟩
  exact ⟨rfl, below_drewN' (Below.refl _ w) _⟩

theorem len_ok (q : Nat) (many : Int) (w : World) (c2 : w.cell? ⟨q, 2, none⟩ = some (.int .i64 many)) :
    Calls Try.prog 51 #[.pointer (some ⟨q, 0, none⟩)] w fun e w' => e = .returned (.int .i64 many) ∧ w = w' := by
  go_enter Try.func51, Try.ntmps51
  go_wp2_with fail
  go_ret
  exact ⟨rfl, rfl⟩

theorem len_nil (w : World) :
    Calls Try.prog 51 #[.pointer none] w fun e w' => e = .returned (.int .i64 0) ∧ w = w' := by
  go_enter Try.func51, Try.ntmps51
  go_wp2_with fail
  go_ret
  exact ⟨rfl, rfl⟩

theorem limit_ok (q : Nat) (lim : Int) (w : World) (c3 : w.cell? ⟨q, 3, none⟩ = some (.int .i64 lim)) :
    Calls Try.prog 74 #[.pointer (some ⟨q, 0, none⟩)] w fun e w' => e = .returned (.int .i64 lim) ∧ w = w' := by
  go_enter Try.func74, Try.ntmps74
  go_wp2_with fail
  go_ret
  exact ⟨rfl, rfl⟩

theorem limit_nil (w : World) :
    Calls Try.prog 74 #[.pointer none] w fun e w' => e = .returned (.int .i64 0) ∧ w = w' := by
  go_enter Try.func74, Try.ntmps74
  go_wp2_with fail
  go_ret
  exact ⟨rfl, rfl⟩

theorem room_ok (q : Nat) (many lim : Nat) (w : World) (c2 : w.cell? ⟨q, 2, none⟩ = some (.int .i64 many)) (c3 : w.cell? ⟨q, 3, none⟩ = some (.int .i64 lim)) (h1 : many ≤ lim) (h2 : lim ≤ 4096) :
    Calls Try.prog 52 #[.pointer (some ⟨q, 0, none⟩)] w fun e w' => e = .returned (.int .i64 ((lim - many : Nat) : Int)) ∧ w = w' := by
  go_enter Try.func52, Try.ntmps52
  go_wp2_with fail
  refine (limit_ok q lim w c3).mono ?_
  rintro e w1 ⟨rfl, rfl⟩
  go_wp2_with fail
  refine (len_ok q many w c2).mono ?_
  rintro e w1 ⟨rfl, rfl⟩
  go_wp2_with fail
  go_ret
  refine ⟨?_, rfl⟩
  exact ret_int (by omega)

theorem room_nil (w : World) :
    Calls Try.prog 52 #[.pointer none] w fun e w' => e = .returned (.int .i64 0) ∧ w = w' := by
  go_enter Try.func52, Try.ntmps52
  go_wp2_with fail
  refine (limit_nil w).mono ?_
  rintro e w1 ⟨rfl, rfl⟩
  go_wp2_with fail
  refine (len_nil w).mono ?_
  rintro e w1 ⟨rfl, rfl⟩
  go_wp2_with fail
  go_ret
  exact ⟨rfl, rfl⟩

theorem pop_some (q g : Nat) (T E : TypeId) (n cap first many lim : Nat) (cells : List Value) (x : ByteArray) (w : World) (h : QI w q T E (.slice (some ⟨g, 0, none⟩) n cap) n cap first many lim cells) (hne : g ≠ q) (hf : first < n) (hm : 0 < many) (hx : cells[first]? = some (.string x)) :
    Calls Try.prog 49 #[.pointer (some ⟨q, 0, none⟩)] w fun e w' => e = .returned (.tuple #[.string x, .nilIface]) ∧ 
      QI w' q T E (.slice (some ⟨g, 0, none⟩) n cap) n cap ((first + 1) % n) (many - 1) lim (cells.set first (.string ⟨#[]⟩)) ∧ Chg (fun k => k = q ∨ k = g) w w' := by
  have c0 := h.c0
  have c1 := h.c1
  have c2 := h.c2
  have hcell : w.cell? ⟨g, first, none⟩ = some (.string x) := by rw [h.own.cellAt first (by omega)]; exact hx
  have hfz : w.frozen? ⟨g, first, none⟩ = false := h.own.frozenAt first
  have HH := Lib.hid h
  clear h
  go_enter Try.func49, Try.ntmps49
  go_wp2_with fail
  refine (has_t q 0 many w c2 (by omega) (by omega)).mono ?_
  rintro e w1 ⟨rfl, rfl⟩
  go_wp2_with fail
  go_quiet (fail)
  obtain ⟨w1, hw1⟩ : ∃ x, x = w.drewN nq := ⟨_, rfl⟩
  rw [← hw1]
  have H1 : QI w1 q T E (.slice (some ⟨g, 0, none⟩) n cap) n cap first many lim cells := HH.out.heap (by rw [hw1]; rfl)
  have hcell1 : w1.cell? ⟨g, first, none⟩ = some (.string x) := by rw [hw1]; exact hcell
  have hfz1 : w1.frozen? ⟨g, first, none⟩ = false := by rw [hw1]; exact hfz
  have X1 : Chg (fun k => k = q ∨ k = g) w w1 := by rw [hw1]; exact (Chg.refl _ w).drewN nq
  clear c0 c1 c2 hcell hfz hw1
  have c0 := H1.c0
  have c1 := H1.c1
  have HH1 := Lib.hid H1
  clear H1
  go_wp2_with fail
  go_still_tail 10, (by kernel_rfl)
  change wpList _ _ _ _ _ w1.drew
  obtain ⟨w2, hw2⟩ : ∃ x, x = w1.drew := ⟨_, rfl⟩
  rw [← hw2]
  have H1 : QI w2 q T E (.slice (some ⟨g, 0, none⟩) n cap) n cap first many lim cells := HH1.out.heap (by rw [hw2]; rfl)
  have hcell2 : w2.cell? ⟨g, first, none⟩ = some (.string x) := by rw [hw2]; exact hcell1
  have hfz2 : w2.frozen? ⟨g, first, none⟩ = false := by rw [hw2]; exact hfz1
  have X2 : Chg (fun k => k = q ∨ k = g) w w2 := by rw [hw2]; exact X1.drew
  clear c0 c1 hcell1 hfz1 hw2
  have HH2 := Lib.hid H1
  clear H1
  go_wp2_with fail
  obtain ⟨w3, hw3⟩ : ∃ x, x = w2.setCell ⟨g, first, none⟩ (.string ⟨#[]⟩) := ⟨_, rfl⟩
  rw [← hw3]
  have H1 : QI w3 q T E (.slice (some ⟨g, 0, none⟩) n cap) n cap first many lim (cells.set first (.string ⟨#[]⟩)) := by rw [hw3]; exact HH2.out.setRing hne first _
  have X3 : Chg (fun k => k = q ∨ k = g) w w3 := by rw [hw3]; exact X2.setCell _ _ (.inr rfl)
  clear hcell2 hfz2 hw3
  have A3 := at_ok q _ cap 1 first n w3 (by have := H1.n_le; have := H1.lim_le; omega) (by omega) (by omega) H1.c0 H1.c1
  have HH3 := Lib.hid H1
  clear H1
  refine A3.mono ?_
  rintro e w4 ⟨rfl, hb⟩
  have H1 := HH3.out.below hb
  have X4 : Chg (fun k => k = q ∨ k = g) w w4 := X3.trans (Chg.ofBelow hb _)
  clear hb A3
  have c1 := H1.c1
  have z1 := H1.fz 1
  have c2 := H1.c2
  have z2 := H1.fz 2
  have b4 : many ≤ 4096 := by have := H1.many_le; have := H1.n_le; have := H1.lim_le; omega
  have HH4 := Lib.hid H1
  clear H1
  obtain ⟨f', hf'⟩ : ∃ f', f' = (first + 1) % n := ⟨_, rfl⟩
  rw [← hf']
  have hfl : f' < n := by rw [hf']; exact Nat.mod_lt _ (by omega)
  have HF := Lib.hid hf'
  clear hf'
  go_wp2_with fail
  go_ret2
  refine ⟨rfl, ?_, ?_⟩
  · have e1 : ((many : Int) - 1) = ((many - 1 : Nat) : Int) := by omega
    rw [e1, ← HF.out]
    exact (HH4.out.set1 f' hfl).set2 (many - 1) (by have := HH4.out.many_le; omega)
  · exact (X4.setCell _ _ (.inl rfl)).setCell _ _ (.inl rfl)

theorem pop_none (q : Nat) (many : Int) (w : World) (c2 : w.cell? ⟨q, 2, none⟩ = some (.int .i64 many)) (hm : many ≤ 0) :
    Calls Try.prog 49 #[.pointer (some ⟨q, 0, none⟩)] w fun e w' => e = .returned (.tuple #[.string ⟨#[]⟩, .iface 94 (.int .i64 50)]) ∧ w = w' := by
  go_enter Try.func49, Try.ntmps49
  go_wp2_with fail
  refine (has_hi q 0 many w c2 (by omega) (by omega)).mono ?_
  rintro e w1 ⟨rfl, rfl⟩
  go_wp2_with fail
  go_ret2
  exact ⟨rfl, rfl⟩

theorem pop_nil (w : World) :
    Calls Try.prog 49 #[.pointer none] w fun e w' => e = .returned (.tuple #[.string ⟨#[]⟩, .iface 94 (.int .i64 50)]) ∧ w = w' := by
  go_enter Try.func49, Try.ntmps49
  go_wp2_with fail
  refine (has_nil 0 w).mono ?_
  rintro e w1 ⟨rfl, rfl⟩
  go_wp2_with fail
  go_ret2
  exact ⟨rfl, rfl⟩

theorem info_str : (Try.prog.info? 9).map (fun i => (i.zero, i.size, i.bytes)) = some (some (.string ⟨#[]⟩), 1, 16) := by kernel_rfl

theorem list_some (q g : Nat) (T : TypeId) (n cap first many lim : Nat) (cells : List Value) (w : World) (h : QI w q T 9 (.slice (some ⟨g, 0, none⟩) n cap) n cap first many lim cells) (hf : first < n) (h1 : ∀ u ∈ cells, ∃ z, u = .string z) :
    Calls Try.prog 70 #[.pointer (some ⟨q, 0, none⟩)] w fun e w' => ∃ v, e = .returned v ∧ w'.ownsRow w.heap.size 9 1 v many (lst cells n first many) ∧ Below w.heap.size w w' := by
  have c2 := h.c2
  have b4 : many ≤ 4096 := by have := h.many_le; have := h.n_le; have := h.lim_le; omega
  obtain ⟨i0, hi, hz0, hz1, hz2⟩ := info_parts info_str
  have HH := Lib.hid h
  clear h
  have H1 := Lib.hid h1
  clear h1
  go_enter Try.func70, Try.ntmps70
  go_wp2_with fail
  refine (len_ok q many w c2).mono ?_
  rintro e w1 ⟨rfl, rfl⟩
  go_wp2_with fail
  clear c2
  go_loopw [3, 7] (fun v i wr => ∃ k : Nat, k ≤ many ∧ i = .int .i64 k ∧ Hid (wr.ownsRow w.heap.size 9 1 v k (lst cells n first k)) ∧ Hid (Below w.heap.size w wr)) (fun _ i _ => many - (intOf i).toNat)
  case atStart => exact ⟨0, Nat.zero_le _, rfl, Lib.hid (World.ownsRow_nil _ _ _ _), Lib.hid (Below.refl _ _)⟩
  case round =>
    obtain ⟨k, hk, rfl, hown, hB⟩ := hrel
    by_cases hlt : k < many
    · have HQ := HH.out.below hB.out
      have c0 := HQ.c0
      have c1 := HQ.c1
      obtain ⟨j, hj⟩ : ∃ j, j = (first + k) % n := ⟨_, rfl⟩
      have hjn : j < n := by rw [hj]; exact Nat.mod_lt _ (by omega)
      have hlen := HQ.len
      obtain ⟨x, hx⟩ : ∃ x, x = cells.getD j (.int .i64 0) := ⟨_, rfl⟩
      have hcell : wr.cell? ⟨g, j, none⟩ = some x := by rw [HQ.own.cellAt j (by omega), hx]; simp [List.getElem?_eq_getElem, hlen, hjn]
      obtain ⟨z, rfl⟩ := H1.out x (by rw [hx]; simp [List.getD, List.getElem?_eq_getElem, hlen, hjn])
      have A : ∀ W : World, W.heap = wr.heap → Calls Try.prog 71 #[.pointer (some ⟨q, 0, none⟩), .int .i64 k] W fun e w' => e = .returned (.int .i64 (j : Int)) ∧ ∃ d, w' = W.drewN d := fun W e => by
        have HW := HQ.heap e
        have := at_q q _ cap k first n W (by have := HQ.n_le; have := HQ.lim_le; omega) hf (by have := HQ.many_le; omega) HW.c0 HW.c1
        rw [← hj] at this
        exact this
      clear HQ
      have HA := Lib.hid A
      clear A
      have HJ := Lib.hid hj
      clear hj
      have HX := Lib.hid hx
      clear hx
      go_wp2_with fail
      go_region_law (first
        | (go_simp; go_at_call 71; refine (HA.out (World.drew wr) rfl).mono ?_; rintro e w' ⟨rfl, d, rfl⟩)
        | (refine step_append_lies _ rfl (.tmp 10) (.tmp 20) 129 rfl w.heap.size 9 i0 (.string ⟨#[]⟩) 1 16 Try.underlying129 hi hz0 hz1 hz2 rfl (by decide) _ k (lst cells n first k) rfl (hown.out.alloc _) ⟨wr.heap.size, 0, none⟩ 1 1 [.string z] rfl rfl (cell_one_new _ _ _) (fun u hu => by simp at hu; subst hu; rfl) (by omega) (by unfold maxLen; omega) (by omega) (by have := hB.out.size; simp; omega) _ rfl ?_; intro g' cap' w1 hown1 hgrow1 hat1 hlt1))
      all_goals
        have R1 : w1.ownsRow w.heap.size 9 1 (.slice (some ⟨g', 0, none⟩) (k + 1) cap') (k + 1) (lst cells n first (k + 1)) := by
          rw [lst_succ, ← HJ.out, ← HX.out]; exact hown1
        have R2 : Below w.heap.size w w1 := below_grown (Nat.le_refl _) ((below_drewN' hB.out _).alloc (by have := hB.out.size; simp; omega) _) hown.out hgrow1
        clear hown1 hgrow1 hat1 hlt1
        go_wp2
        go_roundw
        case rel => exact ⟨k + 1, by omega, by go_num, Lib.hid R1, Lib.hid R2⟩
        case measure => simp [intOf]; omega
    · have e : k = many := by omega
      subst e
      go_wp2
      go_ret
      exact ⟨_, rfl, hown.out, hB.out⟩

theorem list_none (q : Nat) (w : World) (c2 : w.cell? ⟨q, 2, none⟩ = some (.int .i64 0)) :
    Calls Try.prog 70 #[.pointer (some ⟨q, 0, none⟩)] w fun e w' => e = .returned (.slice none 0 0) ∧ w = w' := by
  go_enter Try.func70, Try.ntmps70
  go_wp2_with fail
  refine (len_ok q 0 w c2).mono ?_
  rintro e w1 ⟨rfl, rfl⟩
  go_wp2
  go_loop [3, 7] (fun v i => v = .slice none 0 0 ∧ i = .int .i64 0) (fun _ _ => 0)
  case atStart => exact ⟨rfl, rfl⟩
  case round =>
    obtain ⟨rfl, rfl⟩ := hrel
    go_wp2
    go_ret
    exact ⟨rfl, rfl⟩

theorem list_nil (w : World) :
    Calls Try.prog 70 #[.pointer none] w fun e w' => e = .returned (.slice none 0 0) ∧ w = w' := by
  go_enter Try.func70, Try.ntmps70
  go_wp2_with fail
  refine (len_nil w).mono ?_
  rintro e w1 ⟨rfl, rfl⟩
  go_wp2
  go_loop [3, 7] (fun v i => v = .slice none 0 0 ∧ i = .int .i64 0) (fun _ _ => 0)
  case atStart => exact ⟨rfl, rfl⟩
  case round =>
    obtain ⟨rfl, rfl⟩ := hrel
    go_wp2
    go_ret
    exact ⟨rfl, rfl⟩

/-- The elements, whatever the ring. -/
theorem list_ok (q : Nat) (T : TypeId) (ring : Value) (n cap first many lim : Nat) (cells : List Value) (w : World) (h : QI w q T 9 ring n cap first many lim cells) (h1 : ∀ u ∈ cells, ∃ z, u = .string z) :
    Calls Try.prog 70 #[.pointer (some ⟨q, 0, none⟩)] w fun e w' => ∃ v, e = .returned v ∧ w'.ownsRow w.heap.size 9 1 v many (lst cells n first many) ∧ Below w.heap.size w w' := by
  rcases h.form with ⟨rfl, rfl, rfl⟩ | ⟨g, rfl, hg, hf⟩
  · have hm : many = 0 := by have := h.many_le; omega
    subst hm
    refine (list_none q w h.c2).mono ?_
    rintro e w' ⟨rfl, rfl⟩
    exact ⟨_, rfl, World.ownsRow_nil _ _ _ _, Below.refl _ _⟩
  · exact list_some q g T n cap first many lim cells w h hf h1


end St
end Go.Proofs.Ytahaclglkbgpcaa
