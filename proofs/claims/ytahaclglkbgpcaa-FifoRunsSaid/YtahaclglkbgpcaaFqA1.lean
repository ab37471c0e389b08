/- All: a range over a queue, by contract: its places and elements, while what lies below n0 stays. -/
import Derived.RangeFuncNested
import Derived.RangeFuncBound
import Derived.RangeFuncCalls
import Derived.RangeFuncLeaves
import Derived.Shelf.Abstract
import Derived.Shelf.RegionOpen
import Derived.WalkKit
import Derived.OwnWalkIn
import Derived.TacticsInMore
import Derived.LoopNIn
import Derived.LoopIn
import Derived.Test.YtahaclglkbgpcaaFq8
set_option linter.unusedVariables false
set_option linter.unusedSimpArgs false
namespace Go.Proofs.Ytahaclglkbgpcaa
open Go.RowKit Go.Shelf
set_option maxRecDepth 100000
attribute [local go_sem] Oper.semAt_some

theorem Chg.ofBelow' {n₀ : Nat} {a b : World} (h : Below n₀ a b) : Chg (fun k => n₀ ≤ k) a b :=
  ⟨h.os, h.tape, h.output, h.size, fun k hk hn => h.block k (by omega)⟩

theorem Chg.cell {U : Nat → Prop} {a b : World} (h : Chg U a b) {k o : Nat} {v : Value} (hn : ¬ U k) (hc : a.cell? ⟨k, o, none⟩ = some v) : b.cell? ⟨k, o, none⟩ = some v := by
  have hk : k < a.heap.size := by
    rcases Nat.lt_or_ge k a.heap.size with h | h
    · exact h
    · simp [World.cell?, Array.getElem?_eq_none h] at hc
  simpa [World.cell?, h.block k hk hn] using hc

/-- A queue of ints, none of it among the blocks U. -/
structure QZ (U : Nat → Prop) (w : World) (q lim : Nat) (zs : List Int) : Prop where
  ex : ∃ S, Qu IsI 84 3 w q lim (zs.map (Value.int .i64)) S ∧ ∀ k, S k → ¬ U k

theorem QZ.chg {U : Nat → Prop} {a b : World} {q lim : Nat} {zs : List Int} (h : QZ U a q lim zs) (hb : Chg U a b) : QZ U b q lim zs := by
  obtain ⟨S, h1, h2⟩ := h.ex
  exact ⟨S, h1.chg hb h2, h2⟩

theorem QZ.below {U : Nat → Prop} {a b : World} {q lim : Nat} {zs : List Int} (h : QZ U a q lim zs) (hb : Below a.heap.size a b) : QZ U b q lim zs := h.chg (Chg.ofBelow hb U)

theorem QZ.c2 {U : Nat → Prop} {w : World} {q lim : Nat} {zs : List Int} (h : QZ U w q lim zs) : w.cell? ⟨q, 2, none⟩ = some (.int .i64 (zs.length : Int)) := by
  obtain ⟨S, h1, _⟩ := h.ex
  have := h1.c2
  simpa using this
theorem QZ.c3 {U : Nat → Prop} {w : World} {q lim : Nat} {zs : List Int} (h : QZ U w q lim zs) : w.cell? ⟨q, 3, none⟩ = some (.int .i64 (lim : Int)) := by
  obtain ⟨S, h1, _⟩ := h.ex
  exact h1.c3

/-- What is read of the ring at a place. -/
theorem QZ.ring {U : Nat → Prop} {w : World} {q lim : Nat} {zs : List Int} (h : QZ U w q lim zs) {k : Nat} (hk : k < zs.length) :
    ∃ (g n cap first : Nat), w.cell? ⟨q, 0, none⟩ = some (.slice (some ⟨g, 0, none⟩) n cap) ∧ w.cell? ⟨q, 1, none⟩ = some (.int .i64 (first : Int)) ∧ first < n ∧ n ≤ 4096 ∧ zs.length ≤ n ∧ w.cell? ⟨g, (first + k) % n, none⟩ = some (.int .i64 (zs[k]?.getD 0)) := by
  obtain ⟨S, ⟨ring, n, cap, first, cells, h1, h2, h3, h4⟩, _⟩ := h.ex
  have hm := h1.many_le
  rw [List.length_map] at hm h3
  rcases h1.form with ⟨_, rfl, _⟩ | ⟨g, rfl, hg, hf⟩
  · omega
  · refine ⟨g, n, cap, first, h1.c0, h1.c1, hf, Nat.le_trans h1.n_le h1.lim_le, hm, ?_⟩
    have hl := h1.len
    have hj : (first + k) % n < n := Nat.mod_lt _ (by omega)
    rw [h1.own.cellAt _ (by omega)]
    have e : (lst cells n first zs.length)[k]? = (zs.map (Value.int .i64))[k]? := by rw [h3]
    simp [lst, hk] at e
    rw [List.getElem?_eq_getElem (by omega)] at e ⊢
    simp at e
    rw [e]
    simp [hk]

/-- The pairs of the first k places. -/
def upto (zs : List Int) (k : Nat) : List (Nat × Int) := (List.range k).map fun j => (j, zs[j]?.getD 0)
theorem upto_succ (zs : List Int) (k : Nat) : upto zs (k + 1) = upto zs k ++ [(k, zs[k]?.getD 0)] := by simp [upto, List.range_succ]
theorem upto_length (zs : List Int) (k : Nat) : (upto zs k).length = k := by simp [upto]

theorem grown_drewN (w : World) (D : Nat) : w.grownBy (w.drewN D) none := by
  refine ⟨rfl, rfl, rfl, Nat.le_refl _, ?_⟩
  all_goals (intros; rfl)

set_option maxHeartbeats 1000000 in
theorem all1_in (n : Nat) (hn : 1 ≤ n) (l Bs q lim : Nat) (U : Nat → Prop) (zs : List Int) (J Jx : List (Nat × Int) → World → Prop) (W : World) (hJ : AbidesFrom W.heap.size J)
    (hY : ∀ pre x W1, J pre W1 → pre.length < zs.length → YieldAt Fence.wide (n - 1) Try.prog l #[.int .i64 (x.1 : Int), .int .i64 x.2] W1 fun e W' =>
      (e = .returned (.bool true) ∧ J (pre ++ [x]) W' ∧ Chg U W1 W') ∨ (e = .returned (.bool false) ∧ Jx (pre ++ [x]) W'))
    (hBs : W.cell? ⟨Bs, 0, none⟩ = some (.pointer (some ⟨q, 0, none⟩))) (hb : ¬ U Bs) (hq : QZ U W q lim zs) (h0 : J [] W) :
    CallsIn Fence.wide n Try.prog 53 #[.func (.yield l) #[] #[], .pointer (some ⟨Bs, 0, none⟩)] W fun e W' => (∃ v, e = .returned v) ∧
      ((∃ ys, ys = upto zs zs.length ∧ J ys W') ∨ (∃ pre, (∃ k, k ≤ zs.length ∧ pre = upto zs k) ∧ Jx pre W')) := by
  refine callsIn_of_wp Try.func53 rfl trivial ?_ rfl
  simp only [Try.ntmps53, List.size_toArray, List.length_cons, List.length_nil, Nat.reduceAdd, Nat.reduceSub, Array.replicate_succ, Array.replicate_zero, List.push_toArray, List.append_toArray, List.nil_append, List.cons_append]
  gi_wp2
  gi_loopw [3] (fun i wr => ∃ k : Nat, k ≤ zs.length ∧ i = .int .i64 k ∧ Hid (J (upto zs k) wr) ∧ Hid (Chg U W wr)) (fun i _ => zs.length - (intOf i).toNat)
  case atStart => exact ⟨0, Nat.zero_le _, rfl, Lib.hid h0, Lib.hid (Chg.refl _ _)⟩
  case round =>
    obtain ⟨k, hk, rfl, hJs, hB⟩ := hrel
    have hQ := hq.chg hB.out
    have c2 := hQ.c2
    have hBx : wr.cell? ⟨Bs, 0, none⟩ = some (.pointer (some ⟨q, 0, none⟩)) := hB.out.cell hb hBs
    by_cases hlt : k < zs.length
    · obtain ⟨g, nn, cap, first, c0, c1, f1, f2, f3, hx⟩ := hQ.ring hlt
      obtain ⟨m, hm⟩ : ∃ m, m = (first + k) % nn := ⟨_, rfl⟩
      have hmn : m < nn := by rw [hm]; exact Nat.mod_lt _ (by omega)
      rw [← hm] at hx
      have A : ∀ w2 : World, w2.heap = wr.heap → CallsIn Fence.wide (n - 1) Try.prog 46 #[.pointer (some ⟨q, 0, none⟩), .int .i64 k] w2 fun e w' => e = .returned (.int .i64 (m : Int)) ∧ ∃ d, w' = w2.drewN d := fun w2 e => by
        have e2 : ∀ p, w2.cell? p = wr.cell? p := fun p => by simp [World.cell?, e]
        have := at_q q _ cap k first nn w2 f2 f1 (by omega) (by rw [e2]; exact c0) (by rw [e2]; exact c1)
        rw [← hm] at this
        exact callsIn_wide.2 this
      have HA := Lib.hid A
      have Y : ∀ D : Nat, YieldAt Fence.wide (n - 1) Try.prog l #[.int .i64 (k : Int), .int .i64 (zs[k]'hlt)] (wr.drewN D) fun e W' => ∃ bb, e = .returned (.bool bb) ∧ ((bb = true ∧ J (upto zs (k + 1)) W' ∧ Chg U wr W') ∨ (bb = false ∧ Jx (upto zs (k + 1)) W')) := fun D => by
        have e1 : zs[k]?.getD 0 = zs[k]'hlt := by simp [hlt]
        have h := hY (upto zs k) (k, zs[k]'hlt) (wr.drewN D) (hJ _ _ _ none hJs.out (grown_drewN wr D) (fun r e => by cases e)) (by rw [upto_length]; exact hlt)
        refine h.mono ?_
        rintro e W' (⟨rfl, h1, h2⟩ | ⟨rfl, h1⟩)
        · exact ⟨true, rfl, Or.inl ⟨rfl, by rw [upto_succ, e1]; exact h1, ((Chg.refl U wr).drewN D).trans h2⟩⟩
        · exact ⟨false, rfl, Or.inr ⟨rfl, by rw [upto_succ, e1]; exact h1⟩⟩
      have HY := Lib.hid Y
      clear Y
      have HQ := Lib.hid hQ
      clear hm hQ A
      have mixed : Try.prog.follows Departure.mixedOrders = true := by kernel_rfl
      gi_wp2_with (refine ⟨trivial, ?_⟩; gi_at_call 45; refine (callsIn_wide.2 (has_t q k zs.length _ c2 (by omega) (by omega))).mono ?_; rintro e w' ⟨rfl, rfl⟩)
      gi_region_with_o (first
        | (refine ⟨trivial, ?_⟩; gi_at_call 46; refine (HA.out wr.drew rfl).mono ?_; rintro e w' ⟨rfl, d, rfl⟩; obtain ⟨fn, tmps, assign, body, hy, hR⟩ := HY.out (1 + d))
        | (refine hR.mono ?_; clear hR; rintro e W3 ⟨bb, rfl, hp⟩)
        | fail)
      all_goals (cases bb with
        | true =>
          have hp1 : J (upto zs (k + 1)) W3 ∧ Chg U wr W3 := by
            rcases hp with ⟨_, h⟩ | ⟨h, _⟩
            · exact h
            · cases h
          have HP1 := Lib.hid hp1
          clear hp1 hp
          gi_wp2
          go_roundw
          case rel => exact ⟨k + 1, by omega, by go_num, Lib.hid HP1.out.1, Lib.hid (hB.out.trans HP1.out.2)⟩
          case measure => simp [intOf]; omega
        | false =>
          have hp1 : Jx (upto zs (k + 1)) W3 := by
            rcases hp with ⟨h, _⟩ | ⟨_, h⟩
            · cases h
            · exact h
          have HP1 := Lib.hid hp1
          clear hp1 hp
          gi_wp2
          refine bodyPost_ret (results_none rfl _ _ _) rfl ?_
          exact ⟨⟨_, rfl⟩, .inr ⟨_, ⟨k + 1, by omega, rfl⟩, HP1.out⟩⟩)
    · obtain rfl : k = zs.length := by omega
      gi_wp2_with (refine ⟨trivial, ?_⟩; gi_at_call 45; refine (callsIn_wide.2 (has_hi q zs.length zs.length _ c2 (by omega) (by omega))).mono ?_; rintro e w' ⟨rfl, rfl⟩)
      go_end0
      exact ⟨⟨_, rfl⟩, .inl ⟨_, rfl, hJs.out⟩⟩

/-- All's own: a closure over a box of its own. -/
theorem all_in (n : Nat) (q : Option Addr) (w : World) :
    CallsIn Fence.wide n Try.prog 21 #[.pointer q] w fun e w' => e = .returned (.func (.func 53) #[] #[.pointer (some ⟨w.heap.size, 0, none⟩)]) ∧ w' = w.alloc (.cells #[.pointer q] 23) := by
  refine callsIn_of_wp Try.func21 rfl trivial ?_ rfl
  simp only [Try.ntmps21, List.size_toArray, List.length_cons, List.length_nil, Nat.reduceAdd, Nat.reduceSub, Array.replicate_succ, Array.replicate_zero, List.push_toArray, List.append_toArray, List.nil_append, List.cons_append]
  gi_wp2
  go_ret
  exact ⟨rfl, rfl⟩

theorem all_stops (n : Nat) (hn : 1 ≤ n) (Bs q lim : Nat) (U : Nat → Prop) (zs : List Int) (w : World) (hb : ¬ U Bs) (hU : ∀ k, w.heap.size ≤ k → U k)
    (hc : w.cell? ⟨Bs, 0, none⟩ = some (.pointer (some ⟨q, 0, none⟩))) (hq : QZ U w q lim zs) :
    SeqStopsK Fence.wide n Try.prog 53 #[.pointer (some ⟨Bs, 0, none⟩)] (fun x : Nat × Int => #[Value.int .i64 (x.1 : Int), Value.int .i64 x.2]) (Chg U) (fun ys => ys = upto zs zs.length)
      (fun pre => ∃ k, k ≤ zs.length ∧ pre = upto zs k) zs.length w := fun l J Jx W hW hJ _ hY h0 =>
  all1_in n hn l Bs q lim U zs J Jx W hJ hY (keep hW hc) hb (hq.below hW) h0

theorem chgK_t {U : Nat → Prop} {A B C : World} (h : Chg U A B) (k : Chg U B C) : Chg U A C := h.trans k
theorem chgK_b {U : Nat → Prop} {w : World} (hU : ∀ k, w.heap.size ≤ k → U k) (W : World) (l : Nat) (o o' : Obj) (hl : w.heap.size ≤ l) (_ : W.heap[l]? = some o) (_ : o.isCells = false) (_ : o.isWalk = false) : Chg U W (W.putObj l o') := by
  refine ⟨rfl, rfl, rfl, by simp [World.putObj], fun k hk hn => ?_⟩
  have : k ≠ l := fun e => hn (e ▸ hU l hl)
  simp [World.putObj, Ne.symm this, Array.getElem?_setIfInBounds_ne]

end Go.Proofs.Ytahaclglkbgpcaa
