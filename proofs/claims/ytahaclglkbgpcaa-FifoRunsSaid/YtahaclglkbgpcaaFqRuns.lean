/- tithelaw04.FifoRuns, by contract. -/
import Derived.Deep.RegionWith
import Derived.Test.YtahaclglkbgpcaaFqRh
set_option linter.unusedVariables false
set_option linter.unusedSimpArgs false
namespace Go.Proofs.Ytahaclglkbgpcaa
open Go.RowKit Go.Shelf
set_option maxRecDepth 100000

theorem new_high (lim : Int) (w : World) (h0 : 4096 < lim) :
    Calls Try.prog 9 #[.int .i64 lim] w fun e w' => e = .returned (.tuple #[.pointer none, .iface 94 (.int .i64 1)]) ∧ w = w' := by
  have t0 : decide (lim < 1) = false := by simp; omega
  have t1 : decide (4096 < lim) = true := by simpa
  go_enter Try.func9, Try.ntmps9
  go_wp2_with fail
  go_ret2
  exact ⟨rfl, rfl⟩

/-- What is carried from step to step: the queue, the reference's, and the box in which that lies. -/
structure RS (w : World) (q lim mb : Nat) (zs : List Int) (a : Option Addr) (n c : Nat) (W : World) : Prop where
  below : Below w.heap.size w W
  box : W.heap[mb]? = some (.cells #[.int .i64 (lim : Int), .slice a n c] 56 (0, 0))
  rl : RL W 0 a n c zs
  lo : w.heap.size ≤ mb
  apart : ∀ k, (Value.slice a n c).ownBlock = some k → k ≠ mb
  ex : ∃ S, Qu IsI 84 3 W q lim (zs.map (Value.int .i64)) S ∧ (∀ k, S k → w.heap.size ≤ k ∧ k ≠ mb) ∧ ∀ k, (Value.slice a n c).ownBlock = some k → ¬ S k

section
variable {w W W' : World} {q lim mb n c : Nat} {zs : List Int} {a : Option Addr}
theorem RS.call (h : RS w q lim mb zs a n c W) (hb : Below W.heap.size W W') : RS w q lim mb zs a n c W' := by
  obtain ⟨S, h1, h2, h3⟩ := h.ex
  exact ⟨below_call h.below (Nat.le_refl _) hb, blk_below hb h.box, h.rl.below hb, h.lo, h.apart, S, h1.below hb, h2, h3⟩
theorem RS.drew (h : RS w q lim mb zs a n c W) : RS w q lim mb zs a n c W.drew := by
  obtain ⟨S, h1, h2, h3⟩ := h.ex
  exact ⟨Below.drew h.below, h.box, ⟨h.rl.own, h.rl.len, h.rl.nil⟩, h.lo, h.apart, S, h1.heap rfl, h2, h3⟩
theorem RS.b0 (h : RS w q lim mb zs a n c W) : W.cell? ⟨mb, 0, none⟩ = some (.int .i64 (lim : Int)) := by simp [World.cell?, h.box]
theorem RS.b1 (h : RS w q lim mb zs a n c W) : W.cell? ⟨mb, 1, none⟩ = some (.slice a n c) := by simp [World.cell?, h.box]
theorem RS.bf (h : RS w q lim mb zs a n c W) (o : Nat) : W.frozen? ⟨mb, o, none⟩ = false := by simp [World.frozen?, h.box]

/-- A block of another kind is none of the queue's. -/
theorem Qu.kind {q lim : Nat} {vs : List Value} {S : Nat → Prop} {W : World} (h : Qu IsI 84 3 W q lim vs S) {k : Nat} {cs : Array Value} (hk : W.heap[k]? = some (.cells cs 56 (0, 0))) : ¬ S k := by
  intro hs
  obtain ⟨ring, n, cap, first, cells, h1, h2, h3, h4⟩ := h
  rcases (h4 k).1 hs with rfl | h
  · have := h1.blk; rw [hk] at this; simp at this
  · rcases h1.own.2 with ⟨e, _⟩ | ⟨g, c, cur, e, hb, hg, _⟩
    · rw [e] at h; simp [Value.ownBlock] at h
    · rw [e] at h; simp [Value.ownBlock] at h; subst h; rw [hk] at hg; simp at hg
theorem RL.kind {W : World} {B : Nat} {a : Option Addr} {n c : Nat} {zs : List Int} (h : RL W B a n c zs) {k : Nat} {cs : Array Value} (hk : W.heap[k]? = some (.cells cs 56 (0, 0))) : (Value.slice a n c).ownBlock ≠ some k := by
  intro hs
  rcases h.own.2 with ⟨e, _⟩ | ⟨g, c, cur, e, hb, hg, _⟩
  · rw [e] at hs; simp [Value.ownBlock] at hs
  · rw [e] at hs; simp [Value.ownBlock] at hs; subst hs; rw [hk] at hg; simp at hg

/-- A step: do, then its answer is laid in the box. -/
theorem RS.step (h : RS w q lim mb zs a n c W) {K I V : Int} :
    Calls Try.prog 29 #[.pointer (some ⟨q, 0, none⟩), .agg #[.int .i64 (lim : Int), .slice a n c], .agg #[.int .i64 K, .int .i64 I, .int .i64 V]] W fun e W' => ∃ a' n' c' zs', e = .returned (.tuple #[.agg #[.int .i64 (lim : Int), .slice a' n' c'], .bool true]) ∧ Below w.heap.size w W' ∧ (∀ (k : Nat) (cs : Array Value), W.heap[k]? = some (.cells cs 56 (0, 0)) → W'.heap[k]? = some (.cells cs 56 (0, 0))) ∧
      ∀ (W2 : World) (U : Nat → Prop), Chg U W' W2 → (∀ k, U k → w.heap.size ≤ k ∧ ∃ cs, W'.heap[k]? = some (.cells cs 56 (0, 0))) → W2.heap[mb]? = some (.cells #[.int .i64 (lim : Int), .slice a' n' c'] 56 (0, 0)) → RS w q lim mb zs' a' n' c' W2 := by
  obtain ⟨S, h1, h2, h3⟩ := h.ex
  refine (do_ok h1 h.rl h3).mono ?_
  rintro e W' ⟨a', n', c', zs', rfl, S', g1, g2, g3, g4, g5⟩
  have hb : Below w.heap.size w W' := h.below.trans (g4.below h.below.size (fun k hk => (h2 k hk).1))
  have hkeep : ∀ (k : Nat) (cs : Array Value), W.heap[k]? = some (.cells cs 56 (0, 0)) → W'.heap[k]? = some (.cells cs 56 (0, 0)) := fun k cs hk => g4.heap hk (h1.kind hk)
  have hml := (Array.getElem?_eq_some_iff.1 h.box).1
  have hS' : ∀ k, S' k → w.heap.size ≤ k ∧ k ≠ mb := fun k hk => by
    rcases g5 k hk with h' | h'
    · exact h2 k h'
    · have := h.below.size; omega
  refine ⟨a', n', c', zs', rfl, hb, hkeep, fun W2 U hc hU hbox => ⟨?_, hbox, g2.chg hc (fun k hk hu => by obtain ⟨_, cs, e⟩ := hU k hu; exact g2.kind e hk), h.lo, fun k hk e => by subst e; exact g2.kind (hkeep _ _ h.box) hk, S', g1.chg hc (fun k hk hu => by obtain ⟨_, cs, e⟩ := hU k hu; exact g1.kind e hk), hS', g3⟩⟩
  exact hb.trans (hc.below hb.size (fun k hk => (hU k hk).1))

theorem RS.alike (h : RS w q lim mb zs a n c W) :
    Calls Try.prog 30 #[.pointer (some ⟨q, 0, none⟩), .agg #[.int .i64 (lim : Int), .slice a n c]] W fun e w' => e = .returned (.bool true) ∧ Below W.heap.size W w' := by
  obtain ⟨S, h1, _⟩ := h.ex
  exact alike_ok h1 h.rl
end

theorem RS.alike2 {w W : World} {q lim mb n c : Nat} {zs : List Int} {a : Option Addr} (h : RS w q lim mb zs a n c W) :
    Calls Try.prog 30 #[.pointer (some ⟨q, 0, none⟩), .agg #[.int .i64 (lim : Int), .slice a n c]] W fun e w' => e = .returned (.bool true) ∧ RS w q lim mb zs a n c w' :=
  h.alike.mono fun e w' ⟨h1, h2⟩ => ⟨h1, h.call h2⟩

theorem box_set {W : World} {mb : Nat} {T : TypeId} {u0 u1 : Value} (h : W.heap[mb]? = some (.cells #[u0, u1] T (0, 0))) (x y : Value) : ((W.setCell ⟨mb, 0, none⟩ x).setCell ⟨mb, 1, none⟩ y).heap[mb]? = some (.cells #[x, y] T (0, 0)) :=
  heap_setCell_same _ mb 1 _ T y (heap_setCell_same W mb 0 _ T x h)

set_option maxHeartbeats 4000000 in
theorem runs_ok (limit : Int) (al : Option Addr) (len cap : Nat) (w : World) (hm : len ≤ maxLen)
    (hc : len = 0 ∨ ∃ b o, al = some ⟨b, o, none⟩ ∧ ∀ i, i < len → ∃ x0 x1 x2 : Int, w.cell? ⟨b, o + i * 3, none⟩ = some (.int .i64 x0) ∧ w.cell? ⟨b, o + i * 3 + 1, none⟩ = some (.int .i64 x1) ∧ w.cell? ⟨b, o + i * 3 + 2, none⟩ = some (.int .i64 x2)) :
    Calls Try.prog 6 #[.int .i64 limit, .slice al len cap] w fun e w' => e = .returned (.bool true) ∧ Below w.heap.size w w' := by
  unfold maxLen at hm
  have HCC := Lib.hid hc
  clear hc
  by_cases hv : 1 ≤ limit ∧ limit ≤ 4096
  · obtain ⟨lim, rfl⟩ : ∃ lim : Nat, limit = lim := ⟨limit.toNat, by omega⟩
    go_enter Try.func6, Try.ntmps6
    go_wp2_with fail
    refine (new_ok lim w (by omega) (by omega)).mono ?_
    rintro e w1 ⟨rfl, Q1, B1⟩
    obtain ⟨q, hq⟩ : ∃ q, q = w.heap.size := ⟨_, rfl⟩
    rw [← hq]
    rw [← hq] at Q1
    have hql := Q1.lt _ rfl
    have HQ1 := Lib.hid Q1
    have HB1 := Lib.hid B1
    have HEQ := Lib.hid hq
    clear Q1 B1 hq
    go_wp2_with fail
    refine (rnew_ok lim w1 (by omega) (by omega)).mono ?_
    rintro e w2 ⟨rfl, hb⟩
    have hbA : Below w2.heap.size w2 (w2.alloc (.cells #[.int .i64 (lim : Int), .slice none 0 0] 56)) := (Below.refl _ _).alloc (Nat.le_refl _) _
    have hb12 : Below w1.heap.size w1 (w2.alloc (.cells #[.int .i64 (lim : Int), .slice none 0 0] 56)) := below_call hb (Nat.le_refl _) hbA
    have hqs : q < w2.heap.size := Nat.lt_of_lt_of_le hql hb.size
    have hw2 : w.heap.size ≤ w2.heap.size := (below_call HB1.out (Nat.le_refl _) hb).size
    have R0 : RS w q lim w2.heap.size [] none 0 0 (w2.alloc (.cells #[.int .i64 (lim : Int), .slice none 0 0] 56)) :=
      ⟨below_call HB1.out (Nat.le_refl _) hb12, World.alloc_heap_new _ _, ⟨World.ownsRow_nil _ _ _ _, rfl, fun _ => ⟨rfl, rfl⟩⟩, hw2, fun k hk => by simp [Value.ownBlock] at hk, _, HQ1.out.below hb12, fun k hk => by have e : k = q := hk; have := HEQ.out; omega, fun k hk => by simp [Value.ownBlock] at hk⟩
    have HR0 := Lib.hid R0
    clear R0 hb hbA hb12 hqs hw2 hql
    go_wp2_with fail
    refine (num_nil _).mono ?_
    rintro e w3 ⟨rfl, rfl⟩
    obtain ⟨w4, hw4⟩ : ∃ x, x = w2.alloc (.cells #[.int .i64 (lim : Int), .slice none 0 0] 56) := ⟨_, rfl⟩
    obtain ⟨mb, hmb⟩ : ∃ x, x = w2.heap.size := ⟨_, rfl⟩
    rw [← hw4, ← hmb] at HR0
    rw [← hw4, ← hmb]
    clear hw4 hmb
    go_wp2_with fail
    go_loopw [9] (fun i wr => ∃ k : Nat, k ≤ len ∧ i = .int .i64 k ∧ ∃ zs a n c, Hid (RS w q lim mb zs a n c wr)) (fun i _ => len - (intOf i).toNat)
    case atStart => exact ⟨0, Nat.zero_le _, rfl, _, _, _, _, HR0⟩
    case round =>
      obtain ⟨k, hk, rfl, zs, a, n, c, HR⟩ := hrel
      by_cases hlt : k < len
      · obtain ⟨b, o, rfl, hcc⟩ := HCC.out.resolve_left (by omega)
        obtain ⟨x0, x1, x2, e0, e1, e2⟩ := hcc k hlt
        have hbw : b < w.heap.size := cell_lt e0
        rw [← HR.out.below.cell (p := ⟨b, o + k * 3, none⟩) hbw] at e0
        rw [← HR.out.below.cell (p := ⟨b, o + k * 3 + 1, none⟩) hbw] at e1
        rw [← HR.out.below.cell (p := ⟨b, o + k * 3 + 2, none⟩) hbw] at e2
        have b0 := HR.out.b0
        have b1 := HR.out.b1
        obtain ⟨Z, hZ⟩ : ∃ Z, Z = Obj.cells #[.int .i64 0, .slice none 0 0] 56 (0, 0) := ⟨_, rfl⟩
        have hbz : Below wr.heap.size wr (wr.alloc (.cells #[.int .i64 0, .slice none 0 0] 56)) := (Below.refl _ _).alloc (Nat.le_refl _) _
        have b0a := keep hbz b0; have b1a := keep hbz b1; have e0a := keep hbz e0; have e1a := keep hbz e1; have e2a := keep hbz e2
        have nz : (wr.alloc (.cells #[.int .i64 0, .slice none 0 0] 56)).heap[wr.heap.size]? = some (.cells #[.int .i64 0, .slice none 0 0] 56 (0, 0)) := World.alloc_heap_new _ _
        have nz2 : (wr.drew.alloc (.cells #[.int .i64 0, .slice none 0 0] 56)).heap[wr.heap.size]? = some (.cells #[.int .i64 0, .slice none 0 0] 56 (0, 0)) := World.alloc_heap_new _ _
        have HNZ := Lib.hid nz
        have HNZ2 := Lib.hid nz2
        have hmw : w.heap.size ≤ wr.heap.size := HR.out.below.size
        have ST : ∀ W, (W = wr ∨ W = wr.drew) ∨ (W = (wr.alloc (.cells #[.int .i64 0, .slice none 0 0] 56)).drew ∨ W = wr.drew.alloc (.cells #[.int .i64 0, .slice none 0 0] 56)) → RS w q lim mb zs a n c W := fun W h => by
          rcases h with (rfl | rfl) | (rfl | rfl)
          · exact HR.out
          · exact HR.out.drew
          · exact (HR.out.call hbz).drew
          · exact HR.out.drew.call ((Below.refl _ _).alloc (Nat.le_refl _) _)
        have HST := Lib.hid ST
        have HBX := Lib.hid HR.out.box
        clear hcc ST hZ nz nz2 hbz
        go_wp2_with fail
        first
          | go_region_with (go_at_call 29; (refine Calls.mono (RS.step (HST.out _ ?_)) ?_); (· first | exact .inl (.inl rfl) | exact .inl (.inr rfl) | exact .inr (.inl rfl) | exact .inr (.inr rfl)); rintro e w5 ⟨a', n', c', zs', rfl, hb5, hk5, hst5⟩; have HB5 := Lib.hid hb5; have HT5 := Lib.hid hst5; have hbx5 := hk5 mb _ (by first | exact HBX.out | exact HBX2.out | exact (HST.out _ (.inr (.inl rfl))).box | exact (HST.out _ (.inr (.inr rfl))).box); have HX5 := Lib.hid hbx5; (try (have hnb5 := hk5 wr.heap.size _ (by first | exact HNZ.out | exact HNZ2.out); have nb0 : w5.cell? ⟨wr.heap.size, 0, none⟩ = some (.int .i64 0) := (by simp [World.cell?, hnb5]); have nb1 : w5.cell? ⟨wr.heap.size, 1, none⟩ = some (.slice none 0 0) := (by simp [World.cell?, hnb5]); have nf0 : w5.frozen? ⟨wr.heap.size, 0, none⟩ = false := (by simp [World.frozen?, hnb5]); have nf1 : w5.frozen? ⟨wr.heap.size, 1, none⟩ = false := (by simp [World.frozen?, hnb5]); have HNB5 := Lib.hid hnb5; clear hnb5)); have m50 : w5.cell? ⟨mb, 0, none⟩ = some (.int .i64 (lim : Int)) := (by simp [World.cell?, hbx5]); have m51 : w5.cell? ⟨mb, 1, none⟩ = some (.slice a n c) := (by simp [World.cell?, hbx5]); have mf0 : w5.frozen? ⟨mb, 0, none⟩ = false := (by simp [World.frozen?, hbx5]); have mf1 : w5.frozen? ⟨mb, 1, none⟩ = false := (by simp [World.frozen?, hbx5]); clear hb5 hk5 hst5 hbx5)
          | fail
        all_goals
          have hmlt : mb < wr.heap.size := (Array.getElem?_eq_some_iff.1 HBX.out).1
          have hml5 : mb < w5.heap.size := (Array.getElem?_eq_some_iff.1 HX5.out).1
          have hbA5 : Below w5.heap.size w5 (w5.alloc (.cells #[.int .i64 (lim : Int), .slice a' n' c'] 56)) := (Below.refl _ _).alloc (Nat.le_refl _) _
          have m50a := keep hbA5 m50; have m51a := keep hbA5 m51; have mf0a := keepf hbA5 hml5 mf0; have mf1a := keepf hbA5 hml5 mf1
          have hlo := HR.out.lo
          have HBA5 := Lib.hid hbA5
          clear hbA5
          go_wp2_with fail
          refine (RS.alike2 (w := w) (mb := mb) (zs := zs') ?_).mono ?_
          · first
              | exact HT5.out _ (fun j => j = mb ∨ j = wr.heap.size) (((((Chg.refl (fun j => j = mb ∨ j = wr.heap.size) w5).setCell ⟨wr.heap.size, 0, none⟩ _ (.inr rfl)).setCell ⟨wr.heap.size, 1, none⟩ _ (.inr rfl)).setCell ⟨mb, 0, none⟩ _ (.inl rfl)).setCell ⟨mb, 1, none⟩ _ (.inl rfl)) (fun j hj => by rcases hj with rfl | rfl; exact ⟨hlo, _, HX5.out⟩; exact ⟨hmw, _, HNB5.out⟩) (box_set (by rw [heap_setCell_other _ _ _ _ (by simp; omega), heap_setCell_other _ _ _ _ (by simp; omega)]; exact HX5.out) _ _)
              | exact HT5.out _ (fun j => j = mb) (((Chg.ofBelow HBA5.out (fun j => j = mb)).setCell ⟨mb, 0, none⟩ _ rfl).setCell ⟨mb, 1, none⟩ _ rfl) (fun j hj => by have e : j = mb := hj; subst e; exact ⟨hlo, _, HX5.out⟩) (box_set (blk_below HBA5.out HX5.out) _ _)
              | exact HT5.out _ (fun j => j = mb) ((((Chg.refl (fun j => j = mb) w5).setCell ⟨mb, 0, none⟩ _ rfl).setCell ⟨mb, 1, none⟩ _ rfl).trans (Chg.ofBelow ((Below.refl _ _).alloc (Nat.le_refl _) _) _)) (fun j hj => by have e : j = mb := hj; subst e; exact ⟨hlo, _, HX5.out⟩) (blk_below ((Below.refl _ _).alloc (Nat.le_refl _) _) (box_set HX5.out _ _))
          rintro e w8 ⟨rfl, R8⟩
          have HR8 := Lib.hid R8
          clear R8 m50 m51 mf0 mf1 m50a m51a mf0a mf1a
          go_wp2_with fail
          go_roundw
          case rel => exact ⟨k + 1, by omega, by go_num, _, _, _, _, HR8⟩
          case measure => simp [intOf]; omega
      · obtain rfl : k = len := by omega
        go_wp2_with fail
        refine (works_ok _).mono ?_
        rintro e w5 ⟨rfl, hb⟩
        have HB5 := Lib.hid (below_call HR.out.below (Nat.le_refl _) hb)
        clear hb
        go_wp2_with fail
        go_ret
        exact ⟨rfl, HB5.out⟩
  · have hv' : limit < 1 ∨ 4096 < limit := by omega
    have A1 : Calls Try.prog 9 #[.int .i64 limit] w fun e w' => e = .returned (.tuple #[.pointer none, .iface 94 (.int .i64 1)]) ∧ w = w' := by
      by_cases h0 : limit < 1
      · exact new_low limit w h0
      · exact new_high limit w (by omega)
    go_enter Try.func6, Try.ntmps6
    go_wp2_with fail
    refine A1.mono ?_
    rintro e w1 ⟨rfl, rfl⟩
    go_wp2_with fail
    refine (rnew_bad limit w hv').mono ?_
    rintro e w2 ⟨rfl, hb⟩
    have HB2 := Lib.hid (below_call hb (Nat.le_refl _) ((Below.refl _ w2).alloc (Nat.le_refl _) (.cells #[.int .i64 0, .slice none 0 0] 56)))
    clear hb
    go_wp2_with fail
    refine (num_errno _ _).mono ?_
    rintro e w3 ⟨rfl, rfl⟩
    go_wp2_with fail
    refine (works_ok _).mono ?_
    rintro e w5 ⟨rfl, hb⟩
    have HB5 := Lib.hid (below_call HB2.out (Nat.le_refl _) hb)
    clear hb
    go_wp2_with fail
    go_ret
    exact ⟨rfl, HB5.out⟩
end Go.Proofs.Ytahaclglkbgpcaa
