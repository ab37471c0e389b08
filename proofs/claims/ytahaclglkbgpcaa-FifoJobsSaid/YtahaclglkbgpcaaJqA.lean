/- All for jobs: a range over a queue, by contract. Printed by gen_jqa.py (this repo's) out of XFqA1. -/
import Derived.RangeFuncNested
import Derived.RangeFuncBound
import Derived.RangeFuncCalls
import Derived.RangeFuncLeaves
import Derived.Shelf.Abstract
import Derived.Shelf.RegionOpen
import Derived.WalkKit
import Derived.OwnWalkIn
import Derived.TacticsInMore
import Derived.LoopNIn
import Derived.LoopIn
import Derived.Test.YtahaclglkbgpcaaJq9
set_option linter.unusedVariables false
set_option linter.unusedSimpArgs false
namespace Go.Proofs.Ytahaclglkbgpcaa
open Go.RowKit Go.Shelf
open Go.Proofs.YtahaclglkbgpcaaW.PrintWords (Kd Drawn0 Kept rd rdOf)
open Go.Proofs.Ytahaclglkbgpcaa.PFifoJobs
set_option maxRecDepth 100000
attribute [local go_sem] Oper.semAt_some

/-- A queue of jobs, none of it among the blocks U. -/
def JZ (U : Nat → Prop) (w : World) (q lim : Nat) (zs : List Jb) : Prop :=
  ¬ U q ∧ ((zs = [] ∧ JN w q lim) ∨ ∃ g n cap rs, JQ w q g n cap 0 zs.length lim rs ∧ jl rs n 0 zs.length = zs ∧ ¬ U g)
theorem JZ.chg {U : Nat → Prop} {a b : World} {q lim : Nat} {zs : List Jb} (h : JZ U a q lim zs) (hb : Chg U a b) : JZ U b q lim zs := by
  refine ⟨h.1, h.2.imp (fun k => ⟨k.1, k.2.chg hb h.1⟩) ?_⟩
  rintro ⟨g, n, cap, rs, h1, h2, h3⟩
  exact ⟨g, n, cap, rs, h1.chg hb h.1 h3, h2, h3⟩
theorem JZ.below {U : Nat → Prop} {a b : World} {q lim : Nat} {zs : List Jb} (h : JZ U a q lim zs) (hb : Below a.heap.size a b) : JZ U b q lim zs := h.chg (Chg.ofBelow hb U)
theorem JZ.c2 {U : Nat → Prop} {w : World} {q lim : Nat} {zs : List Jb} (h : JZ U w q lim zs) : w.cell? ⟨q, 2, none⟩ = some (.int .i64 (zs.length : Int)) := by
  rcases h.2 with ⟨rfl, h1⟩ | ⟨g, n, cap, rs, h1, -⟩
  · exact h1.c2
  · exact h1.c2
theorem JZ.c3 {U : Nat → Prop} {w : World} {q lim : Nat} {zs : List Jb} (h : JZ U w q lim zs) : w.cell? ⟨q, 3, none⟩ = some (.int .i64 (lim : Int)) := by
  rcases h.2 with ⟨rfl, h1⟩ | ⟨g, n, cap, rs, h1, -⟩
  · exact h1.c3
  · exact h1.c3
theorem JZ.lim_le {U : Nat → Prop} {w : World} {q lim : Nat} {zs : List Jb} (h : JZ U w q lim zs) : lim ≤ 4096 := by
  rcases h.2 with ⟨rfl, h1⟩ | ⟨g, n, cap, rs, h1, -⟩
  · exact h1.lim_le
  · exact h1.lim_le
theorem JZ.len_le {U : Nat → Prop} {w : World} {q lim : Nat} {zs : List Jb} (h : JZ U w q lim zs) : zs.length ≤ lim := by
  rcases h.2 with ⟨rfl, h1⟩ | ⟨g, n, cap, rs, h1, -⟩
  · simp
  · have := h1.many_le; have := h1.n_le; omega
theorem JZ.sub {U V : Nat → Prop} {w : World} {q lim : Nat} {zs : List Jb} (h : JZ U w q lim zs) (hv : ∀ k, k < w.heap.size → V k → U k) : JZ V w q lim zs := by
  rcases h.2 with ⟨h0, h1⟩ | ⟨g, n, cap, rs, h1, h2, h3⟩
  · exact ⟨fun v => h.1 (hv _ h1.lt v), .inl ⟨h0, h1⟩⟩
  · exact ⟨fun v => h.1 (hv _ h1.lt v), .inr ⟨g, n, cap, rs, h1, h2, fun v => h3 (hv _ h1.ltg v)⟩⟩
theorem JZ.heap {U : Nat → Prop} {a b : World} {q lim : Nat} {zs : List Jb} (h : JZ U a q lim zs) (e : b.heap = a.heap) : JZ U b q lim zs := by
  refine ⟨h.1, h.2.imp (fun k => ⟨k.1, k.2.heap e⟩) ?_⟩
  rintro ⟨g, n, cap, rs, h1, h2, h3⟩
  exact ⟨g, n, cap, rs, h1.heap e, h2, h3⟩
theorem jl_get {rs : List Jb} {n m k : Nat} {zs : List Jb} (h : jl rs n 0 m = zs) (hl : rs.length = n) (hm : m ≤ n) (hk : k < m) : ∃ x, rs[k]? = some x ∧ zs[k]? = some x := by
  have hkl : k < rs.length := by omega
  refine ⟨rs[k], List.getElem?_eq_getElem hkl, ?_⟩
  rw [← h]
  have e : (0 + k) % n = k := by rw [Nat.zero_add]; exact Nat.mod_eq_of_lt (by omega)
  simp [jl, List.getElem?_map, List.getElem?_range, hk, Nat.mod_eq_of_lt (show k < n by omega), List.getElem?_eq_getElem hkl]
theorem JS.jz {U S : Nat → Prop} {w : World} {q lim : Nat} {zs : List Jb} (h : JS w q lim zs S) (hU : ∀ k, S k → ¬ U k) : JZ U w q lim zs := by
  refine ⟨hU _ h.1.1, h.2.imp id ?_⟩
  rintro ⟨g, n, cap, rs, h1, h2, h3⟩
  exact ⟨g, n, cap, rs, h1, h2, hU _ h3⟩
/-- What is read of the ring at a place. -/
theorem JZ.ring {U : Nat → Prop} {w : World} {q lim : Nat} {zs : List Jb} (h : JZ U w q lim zs) {k : Nat} (hk : k < zs.length) :
    ∃ (g n cap : Nat) (x : Jb), w.cell? ⟨q, 0, none⟩ = some (.slice (some ⟨g, 0, none⟩) n cap) ∧ w.cell? ⟨q, 1, none⟩ = some (.int .i64 ((0 : Nat) : Int)) ∧ 0 < n ∧ n ≤ 4096 ∧ zs.length ≤ n ∧ zs[k]? = some x ∧
      w.cell? ⟨g, k * 4, none⟩ = some (.int .i64 x.f0) ∧ w.cell? ⟨g, k * 4 + 1, none⟩ = some (.int .i64 x.f1) ∧ w.cell? ⟨g, k * 4 + 2, none⟩ = some (.int .i64 x.f2) ∧ w.cell? ⟨g, k * 4 + 3, none⟩ = some (.int .i64 x.f3) := by
  rcases h.2 with ⟨rfl, h1⟩ | ⟨g, n, cap, rs, h1, h2, -⟩
  · simp at hk
  · obtain ⟨x, e1, e2⟩ := jl_get h2 h1.len h1.many_le hk
    obtain ⟨x0, x1, x2, x3⟩ := h1.cells e1
    exact ⟨g, n, cap, x, h1.c0, h1.c1, h1.f_lt, h1.small, h1.many_le, e2, x0, x1, x2, x3⟩

/-- The pairs of the first k places. -/
def jupto (zs : List Jb) (k : Nat) : List (Nat × Jb) := (List.range k).map fun j => (j, zs[j]?.getD zJ)
theorem jupto_succ (zs : List Jb) (k : Nat) : jupto zs (k + 1) = jupto zs k ++ [(k, zs[k]?.getD zJ)] := by simp [jupto, List.range_succ]
theorem jupto_length (zs : List Jb) (k : Nat) : (jupto zs k).length = k := by simp [jupto]

theorem jgrown_drewN (w : World) (D : Nat) : w.grownBy (w.drewN D) none := by
  refine ⟨rfl, rfl, rfl, Nat.le_refl _, ?_⟩
  all_goals (intros; rfl)

set_option maxHeartbeats 1000000 in
theorem jall1_in (n : Nat) (hn : 1 ≤ n) (l Bs q lim : Nat) (U : Nat → Prop) (zs : List Jb) (J Jx : List (Nat × Jb) → World → Prop) (W : World) (hJ : AbidesFrom W.heap.size J)
    (hY : ∀ pre x W1, J pre W1 → pre.length < zs.length → YieldAt Fence.wide (n - 1) Try.prog l #[.int .i64 (x.1 : Int), .agg #[.int .i64 x.2.f0, .int .i64 x.2.f1, .int .i64 x.2.f2, .int .i64 x.2.f3]] W1 fun e W' =>
      (e = .returned (.bool true) ∧ J (pre ++ [x]) W' ∧ Chg U W1 W') ∨ (e = .returned (.bool false) ∧ Jx (pre ++ [x]) W'))
    (hBs : W.cell? ⟨Bs, 0, none⟩ = some (.pointer (some ⟨q, 0, none⟩))) (hb : ¬ U Bs) (hq : JZ U W q lim zs) (h0 : J [] W) :
    CallsIn Fence.wide n Try.prog 75 #[.func (.yield l) #[] #[], .pointer (some ⟨Bs, 0, none⟩)] W fun e W' => (∃ v, e = .returned v) ∧
      ((∃ ys, ys = jupto zs zs.length ∧ J ys W') ∨ (∃ pre, (∃ k, k ≤ zs.length ∧ pre = jupto zs k) ∧ Jx pre W')) := by
  refine callsIn_of_wp Try.func75 rfl trivial ?_ rfl
  simp only [Try.ntmps75, List.size_toArray, List.length_cons, List.length_nil, Nat.reduceAdd, Nat.reduceSub, Array.replicate_succ, Array.replicate_zero, List.push_toArray, List.append_toArray, List.nil_append, List.cons_append]
  gi_wp2
  gi_loopw [3] (fun i wr => ∃ k : Nat, k ≤ zs.length ∧ i = .int .i64 k ∧ Hid (J (jupto zs k) wr) ∧ Hid (Chg U W wr)) (fun i _ => zs.length - (intOf i).toNat)
  case atStart => exact ⟨0, Nat.zero_le _, rfl, Lib.hid h0, Lib.hid (Chg.refl _ _)⟩
  case round =>
    obtain ⟨k, hk, rfl, hJs, hB⟩ := hrel
    have hQ := hq.chg hB.out
    have c2 := hQ.c2
    have hBx : wr.cell? ⟨Bs, 0, none⟩ = some (.pointer (some ⟨q, 0, none⟩)) := hB.out.cell hb hBs
    by_cases hlt : k < zs.length
    · obtain ⟨g, nn, cap, x, c0, c1, f1, f2, f3, hx, x0, x1, x2, x3⟩ := hQ.ring hlt
      have A : ∀ w2 : World, w2.heap = wr.heap → CallsIn Fence.wide (n - 1) Try.prog 56 #[.pointer (some ⟨q, 0, none⟩), .int .i64 k] w2 fun e w' => e = .returned (.int .i64 (k : Int)) ∧ ∃ d, w' = w2.drewN d := fun w2 e => by
        have e2 : ∀ p, w2.cell? p = wr.cell? p := fun p => by simp [World.cell?, e]
        have := jat_q q _ cap k 0 nn w2 f2 f1 (by omega) (by rw [e2]; exact c0) (by rw [e2]; exact c1)
        rw [show (0 + k) % nn = k by rw [Nat.zero_add]; exact Nat.mod_eq_of_lt (by omega)] at this
        exact callsIn_wide.2 this
      have HA := Lib.hid A
      have Y : ∀ D : Nat, YieldAt Fence.wide (n - 1) Try.prog l #[.int .i64 (k : Int), .agg #[.int .i64 x.f0, .int .i64 x.f1, .int .i64 x.f2, .int .i64 x.f3]] (wr.drewN D) fun e W' => ∃ bb, e = .returned (.bool bb) ∧ ((bb = true ∧ J (jupto zs (k + 1)) W' ∧ Chg U wr W') ∨ (bb = false ∧ Jx (jupto zs (k + 1)) W')) := fun D => by
        have e1 : zs[k]?.getD zJ = x := by simp [hx]
        have h := hY (jupto zs k) (k, x) (wr.drewN D) (hJ _ _ _ none hJs.out (jgrown_drewN wr D) (fun r e => by cases e)) (by rw [jupto_length]; exact hlt)
        refine h.mono ?_
        rintro e W' (⟨rfl, h1, h2⟩ | ⟨rfl, h1⟩)
        · exact ⟨true, rfl, Or.inl ⟨rfl, by rw [jupto_succ, e1]; exact h1, ((Chg.refl U wr).drewN D).trans h2⟩⟩
        · exact ⟨false, rfl, Or.inr ⟨rfl, by rw [jupto_succ, e1]; exact h1⟩⟩
      have HY := Lib.hid Y
      clear Y
      have HQ := Lib.hid hQ
      clear hQ A hx
      have mixed : Try.prog.follows Departure.mixedOrders = true := by kernel_rfl
      gi_wp2_with (refine ⟨trivial, ?_⟩; gi_at_call 76; refine (callsIn_wide.2 (jhas_t q k zs.length _ c2 (by omega) (by omega))).mono ?_; rintro e w' ⟨rfl, rfl⟩)
      gi_region_with_o (first
        | (refine ⟨trivial, ?_⟩; gi_at_call 56; refine (HA.out wr.drew rfl).mono ?_; rintro e w' ⟨rfl, d, rfl⟩; obtain ⟨fn, tmps, assign, body, hy, hR⟩ := HY.out (1 + d))
        | (refine hR.mono ?_; clear hR; rintro e W3 ⟨bb, rfl, hp⟩)
        | fail)
      all_goals (cases bb with
        | true =>
          have hp1 : J (jupto zs (k + 1)) W3 ∧ Chg U wr W3 := by
            rcases hp with ⟨_, h⟩ | ⟨h, _⟩
            · exact h
            · cases h
          have HP1 := Lib.hid hp1
          clear hp1 hp
          gi_wp2
          go_roundw
          case rel => exact ⟨k + 1, by omega, by go_num, Lib.hid HP1.out.1, Lib.hid (hB.out.trans HP1.out.2)⟩
          case measure => simp [intOf]; omega
        | false =>
          have hp1 : Jx (jupto zs (k + 1)) W3 := by
            rcases hp with ⟨h, _⟩ | ⟨_, h⟩
            · cases h
            · exact h
          have HP1 := Lib.hid hp1
          clear hp1 hp
          gi_wp2
          refine bodyPost_ret (results_none rfl _ _ _) rfl ?_
          exact ⟨⟨_, rfl⟩, .inr ⟨_, ⟨k + 1, by omega, rfl⟩, HP1.out⟩⟩)
    · obtain rfl : k = zs.length := by omega
      gi_wp2_with (refine ⟨trivial, ?_⟩; gi_at_call 76; refine (callsIn_wide.2 (jhas_hi q zs.length zs.length _ c2 (by omega) (by omega))).mono ?_; rintro e w' ⟨rfl, rfl⟩)
      go_end0
      exact ⟨⟨_, rfl⟩, .inl ⟨_, rfl, hJs.out⟩⟩

/-- All's own: a closure over a box of its own. -/
theorem jall_in (n : Nat) (q : Option Addr) (w : World) :
    CallsIn Fence.wide n Try.prog 59 #[.pointer q] w fun e w' => e = .returned (.func (.func 75) #[] #[.pointer (some ⟨w.heap.size, 0, none⟩)]) ∧ w' = w.alloc (.cells #[.pointer q] 44) := by
  refine callsIn_of_wp Try.func59 rfl trivial ?_ rfl
  simp only [Try.ntmps59, List.size_toArray, List.length_cons, List.length_nil, Nat.reduceAdd, Nat.reduceSub, Array.replicate_succ, Array.replicate_zero, List.push_toArray, List.append_toArray, List.nil_append, List.cons_append]
  gi_wp2
  go_ret
  exact ⟨rfl, rfl⟩

theorem jall_stops (n : Nat) (hn : 1 ≤ n) (Bs q lim : Nat) (U : Nat → Prop) (zs : List Jb) (w : World) (hb : ¬ U Bs) (hU : ∀ k, w.heap.size ≤ k → U k)
    (hc : w.cell? ⟨Bs, 0, none⟩ = some (.pointer (some ⟨q, 0, none⟩))) (hq : JZ U w q lim zs) :
    SeqStopsK Fence.wide n Try.prog 75 #[.pointer (some ⟨Bs, 0, none⟩)] (fun x : Nat × Jb => #[Value.int .i64 (x.1 : Int), Value.agg #[.int .i64 x.2.f0, .int .i64 x.2.f1, .int .i64 x.2.f2, .int .i64 x.2.f3]]) (Chg U) (fun ys => ys = jupto zs zs.length)
      (fun pre => ∃ k, k ≤ zs.length ∧ pre = jupto zs k) zs.length w := fun l J Jx W hW hJ _ hY h0 =>
  jall1_in n hn l Bs q lim U zs J Jx W hJ hY (keep hW hc) hb (hq.below hW) h0

theorem jchgK_t {U : Nat → Prop} {A B C : World} (h : Chg U A B) (k : Chg U B C) : Chg U A C := h.trans k
theorem jchgK_b {U : Nat → Prop} {w : World} (hU : ∀ k, w.heap.size ≤ k → U k) (W : World) (l : Nat) (o o' : Obj) (hl : w.heap.size ≤ l) (_ : W.heap[l]? = some o) (_ : o.isCells = false) (_ : o.isWalk = false) : Chg U W (W.putObj l o') := by
  refine ⟨rfl, rfl, rfl, by simp [World.putObj], fun k hk hn => ?_⟩
  have : k ≠ l := fun e => hn (e ▸ hU l hl)
  simp [World.putObj, Ne.symm this, Array.getElem?_setIfInBounds_ne]

end Go.Proofs.Ytahaclglkbgpcaa
