/- Of the text SK1 only what this claim needs (shake.py, this repo's). -/
import Derived.Test.YtdilediiofenmaaZTSm
import Derived.Test.YtdilediiofenmaaZPSlackRunsx4
import Derived.Test.YtdilediiofenmaaZTpC
import Derived.WalkMore
set_option linter.unusedVariables false
set_option linter.unusedSimpArgs false
namespace Go.Proofs.Ytdilediiofenmaa
open Go.RowKit
open Go.Proofs.YtdilediiofenmaaW.PrintWords (Kd Drawn0 Kept rd rdOf)
open Go.Proofs.Ytdilediiofenmaa.PSlackRuns
set_option maxRecDepth 100000

/-- A pool: its block p, its table's block t, its slots' block g, who was last. -/
structure PL (w : World) (p t g cap : Nat) (last : Int) (xs : List Sk) : Prop where
  blk : w.heap[p]? = some (.cells #[.pointer (some ⟨t, 0, none⟩), .int .i64 last] 81 (0, 0))
  tt : TT w t g 16 cap 3 xs
  tm : TM 3 16 xs
  lr : -1 ≤ last ∧ last ≤ 15
section
variable {w w' : World} {p t g cap : Nat} {last : Int} {xs : List Sk}
theorem PL.c0 (h : PL w p t g cap last xs) : w.cell? ⟨p, 0, none⟩ = some (.pointer (some ⟨t, 0, none⟩)) := by simp [World.cell?, h.blk]
theorem PL.c1 (h : PL w p t g cap last xs) : w.cell? ⟨p, 1, none⟩ = some (.int .i64 last) := by simp [World.cell?, h.blk]
theorem PL.lt (h : PL w p t g cap last xs) : p < w.heap.size := (Array.getElem?_eq_some_iff.1 h.blk).1
theorem PL.fz (h : PL w p t g cap last xs) (j : Nat) : w.frozen? ⟨p, j, none⟩ = false := by simp [World.frozen?, h.blk]
theorem PL.ne (h : PL w p t g cap last xs) : p ≠ g := h.tt.row.ty_ne h.blk (by decide)
theorem PL.ne' (h : PL w p t g cap last xs) : p ≠ t := by
  rintro rfl
  have := h.blk
  rw [h.tt.blk] at this
  simp at this
theorem PL.below (h : PL w p t g cap last xs) (hb : Below w.heap.size w w') : PL w' p t g cap last xs := ⟨(hb.block p h.lt).trans h.blk, h.tt.below hb, h.tm, h.lr⟩
theorem PL.alloc (h : PL w p t g cap last xs) (o : Obj) : PL (w.alloc o) p t g cap last xs := h.below ((Below.refl _ w).alloc (Nat.le_refl _) o)
/-- The slots turned alone. -/
theorem PL.put {ys : List Sk} (h : PL w p t g cap last xs) (hc : Chg (fun k => k = g) w w') (ht : TT w' t g 16 cap 3 ys) (hm : TM 3 16 ys) : PL w' p t g cap last ys := ⟨hc.heap h.blk (fun e => h.ne e), ht, hm, h.lr⟩
/-- Who was last is written. -/
theorem PL.setLast (h : PL w p t g cap last xs) (l : Int) (hl : -1 ≤ l ∧ l ≤ 15) : PL (w.setCell ⟨p, 1, none⟩ (.int .i64 l)) p t g cap l xs := by
  have hc : Chg (fun k => k = p) w (w.setCell ⟨p, 1, none⟩ (.int .i64 l)) := (Chg.refl _ w).setCell ⟨p, 1, none⟩ _ rfl
  refine ⟨heap_setCell_same w p 1 _ _ _ h.blk, h.tt.chg hc (fun e => h.ne' e.symm) (fun e => h.ne e.symm) (fun k cs fr hk e => ?_), h.tm, hl⟩
  subst e
  rw [h.blk] at hk
  simp at hk
end

theorem snew_ok (w : World) :
    Calls Try.prog 8 #[] w fun e w' => ∃ p t g cap, e = .returned (.pointer (some ⟨p, 0, none⟩)) ∧ PL w' p t g cap (-1) (List.replicate 16 oneSk) ∧ w.heap.size ≤ p ∧ w.heap.size ≤ t ∧ w.heap.size ≤ g ∧ Below w.heap.size w w' := by
  go_enter Try.func8, Try.ntmps8
  go_wp2_with fail
  refine (tnews_ok 3 16 _ (by omega) (by omega) (by omega) (by omega)).mono ?_
  rintro e w1 ⟨t, g, cap, rfl, hT, ht, hg, hb⟩
  have HT := Lib.hid hT
  have HB := Lib.hid hb
  have Ht := Lib.hid ht
  have Hg := Lib.hid hg
  clear hT hb ht hg
  go_wp2
  go_ret
  refine ⟨_, t, g, cap, rfl, ⟨heap_alloc_new w1 _, HT.out.below ((Below.refl _ w1).alloc (Nat.le_refl _) _), TM.one (by omega) (by omega) (by omega) (by omega), by omega⟩, HB.out.size, Ht.out, Hg.out, below_alloc HB.out (Nat.le_refl _) _⟩

theorem srem_miss (p t g cap : Nat) (last h : Int) (xs : List Sk) (w : World) (H : PL w p t g cap last xs) (ha : SNo 3 h xs) :
    Calls Try.prog 20 #[.pointer (some ⟨p, 0, none⟩), .int .i64 h] w fun e w' => e = .returned (.iface 82 (.int .i64 20)) ∧ Below w.heap.size w w' := by
  have c0 := H.c0
  have HH := Lib.hid H
  have HA := Lib.hid ha
  clear H ha
  go_enter Try.func20, Try.ntmps20
  go_wp2_with fail
  refine (tdrop_miss t g 16 cap 3 h xs _ HH.out.tt HH.out.tm HA.out).mono ?_
  rintro e w1 ⟨rfl, m, rfl⟩
  go_wp2
  go_ret
  exact ⟨rfl, below_drewN' (Below.refl _ w) m⟩

end Go.Proofs.Ytdilediiofenmaa

/- Of the text SK4 only what this claim needs (shake.py, this repo's). -/
set_option linter.unusedVariables false
set_option linter.unusedSimpArgs false
namespace Go.Proofs.Ytdilediiofenmaa
open Go.RowKit
open Go.Proofs.YtdilediiofenmaaW.PrintWords (Kd Drawn0 Kept rd rdOf)
open Go.Proofs.Ytdilediiofenmaa.PSlackRuns
set_option maxRecDepth 100000

/-- The slots that are taken, with their places. -/
def tkL : Nat → List Sk → List (Nat × Sk)
  | _, [] => []
  | i, x :: r => if x.f1 = true then (i, x) :: tkL (i + 1) r else tkL (i + 1) r
theorem tallF_tkL (kind : Int) : ∀ (xs : List Sk) (i : Nat), tallF kind i xs = (tkL i xs).map fun q => mk kind q.1 q.2.f0
  | [], i => by simp only [tallF, tkL, List.map_nil]
  | x :: r, i => by
    simp only [tallF, tkL]
    split
    · rw [List.map_cons, tallF_tkL kind r (i + 1)]
    · exact tallF_tkL kind r (i + 1)
theorem tkL_mem : ∀ (xs : List Sk) (i j : Nat) (x : Sk), (j, x) ∈ tkL i xs → i ≤ j ∧ xs[j - i]? = some x ∧ x.f1 = true
  | [], i, j, x, h => by simp [tkL] at h
  | y :: r, i, j, x, h => by
    simp only [tkL] at h
    by_cases hy : y.f1 = true
    · rw [if_pos hy] at h
      rcases List.mem_cons.1 h with e | h
      · have e1 : j = i := congrArg Prod.fst e
        have e2 : x = y := congrArg Prod.snd e
        subst e1 e2
        exact ⟨Nat.le_refl _, by simp, hy⟩
      · obtain ⟨h1, h2, h3⟩ := tkL_mem r (i + 1) j x h
        refine ⟨by omega, ?_, h3⟩
        rw [show j - i = (j - (i + 1)) + 1 by omega, List.getElem?_cons_succ]
        exact h2
    · rw [if_neg hy] at h
      obtain ⟨h1, h2, h3⟩ := tkL_mem r (i + 1) j x h
      refine ⟨by omega, ?_, h3⟩
      rw [show j - i = (j - (i + 1)) + 1 by omega, List.getElem?_cons_succ]
      exact h2
theorem tkL_at {kind : Int} {xs : List Sk} {k i : Nat} {x : Sk} (h : (tkL 0 xs)[k]? = some (i, x)) : SAt kind (mk kind i x.f0) xs i x := by
  obtain ⟨h1, h2, h3⟩ := tkL_mem xs 0 i x (List.mem_of_getElem? h)
  exact ⟨by simpa using h2, h3, rfl⟩
theorem tall_at {kind : Int} {xs : List Sk} {k i : Nat} {x : Sk} (h : (tkL 0 xs)[k]? = some (i, x)) : (tallH kind xs)[k]? = some (mk kind i x.f0) := by
  unfold tallH
  rw [tallF_tkL, List.getElem?_map, h]
  rfl
theorem tall_len (kind : Int) (xs : List Sk) : (tallH kind xs).length = (tkL 0 xs).length := by unfold tallH; rw [tallF_tkL, List.length_map]
theorem tkL_len : ∀ (xs : List Sk) (i : Nat), (tkL i xs).length ≤ xs.length
  | [], i => by simp [tkL]
  | x :: r, i => by
    have := tkL_len r (i + 1)
    simp only [tkL]
    split <;> simp <;> omega

/-- How far a slot is from the last one. -/
def wayF (last : Int) (i : Nat) : Int := ((i : Int) - last - 1 + 16) % 16
/-- One step of the search. -/
def nxStep (last : Int) (s : Int × Int × Int) (q : Nat × Sk) : Int × Int × Int :=
  if 0 < q.2.T.js.length ∧ (s.1 = 0 ∨ q.2.T.p < s.2.1 ∨ (q.2.T.p = s.2.1 ∧ wayF last q.1 < s.2.2)) then (mk 3 q.1 q.2.f0, q.2.T.p, wayF last q.1) else s
def nextF (last : Int) (xs : List Sk) : Int := ((tkL 0 xs).foldl (nxStep last) (0, 0, 0)).1

theorem int_at {e : TypeId} {w : World} {b : Nat} {ok : Nat → Prop} {A : Option Addr} {n cap : Nat} {xs : List Int} (h : (Kd.int .i64).R e w b ok (.slice A n cap) xs) {i : Nat} {x : Int} (hx : xs[i]? = some x) : ∃ g, A = some ⟨g, 0, none⟩ ∧ w.cell? ⟨g, i, none⟩ = some (.int .i64 x) := by
  have hi : i < xs.length := (List.getElem?_eq_some_iff.1 hx).1
  obtain ⟨g, cap', e1, -, -, -⟩ := Kd.R_form h (by omega)
  injection e1 with e2 e3 e4
  subst e2
  refine ⟨g, rfl, ?_⟩
  obtain ⟨rfl, -, -⟩ := Kd.R_reads' h
  have ho := Kd.own_of_R h
  have hc := ho.cellAt i (by rw [Nat.mul_one]; exact hi)
  rw [hc]
  simp [YtdilediiofenmaaW.PrintWords.encs, hx]

theorem chg_b8 {w W : World} {b : Nat} (u0 u1 u2 u3 u4 u5 u6 u7 : Value) (h : Chg (fun k => k = b) w W) : Chg (fun k => k = b) w ((((((((W.setCell ⟨b, 0, none⟩ u0).setCell ⟨b, 1, none⟩ u1).setCell ⟨b, 2, none⟩ u2).setCell ⟨b, 3, none⟩ u3).setCell ⟨b, 4, none⟩ u4).setCell ⟨b, 5, none⟩ u5).setCell ⟨b, 6, none⟩ u6).setCell ⟨b, 7, none⟩ u7) :=
  (((((((h.setCell ⟨b, 0, none⟩ u0 rfl).setCell ⟨b, 1, none⟩ u1 rfl).setCell ⟨b, 2, none⟩ u2 rfl).setCell ⟨b, 3, none⟩ u3 rfl).setCell ⟨b, 4, none⟩ u4 rfl).setCell ⟨b, 5, none⟩ u5 rfl).setCell ⟨b, 6, none⟩ u6 rfl).setCell ⟨b, 7, none⟩ u7 rfl
theorem chain8' {W : World} {b : Nat} {ty : TypeId} {a0 a1 a2 a3 a4 a5 a6 a7 u0 u1 u2 u3 u4 u5 u6 u7 : Value} (h : W.heap[b]? = some (.cells #[a0, a1, a2, a3, a4, a5, a6, a7] ty (0, 0))) :
    (((((((((W.setCell ⟨b, 0, none⟩ u0).setCell ⟨b, 1, none⟩ u1).setCell ⟨b, 2, none⟩ u2).setCell ⟨b, 3, none⟩ u3).setCell ⟨b, 4, none⟩ u4).setCell ⟨b, 5, none⟩ u5).setCell ⟨b, 6, none⟩ u6).setCell ⟨b, 7, none⟩ u7)).heap[b]? = some (.cells #[u0, u1, u2, u3, u4, u5, u6, u7] ty (0, 0)) := by
  have e0 : ((W.setCell ⟨b, 0, none⟩ u0)).heap[b]? = some (.cells #[u0, a1, a2, a3, a4, a5, a6, a7] ty (0, 0)) := heap_setCell_same _ b 0 _ _ u0 h
  have e1 : (((W.setCell ⟨b, 0, none⟩ u0).setCell ⟨b, 1, none⟩ u1)).heap[b]? = some (.cells #[u0, u1, a2, a3, a4, a5, a6, a7] ty (0, 0)) := heap_setCell_same _ b 1 _ _ u1 e0
  have e2 : ((((W.setCell ⟨b, 0, none⟩ u0).setCell ⟨b, 1, none⟩ u1).setCell ⟨b, 2, none⟩ u2)).heap[b]? = some (.cells #[u0, u1, u2, a3, a4, a5, a6, a7] ty (0, 0)) := heap_setCell_same _ b 2 _ _ u2 e1
  have e3 : (((((W.setCell ⟨b, 0, none⟩ u0).setCell ⟨b, 1, none⟩ u1).setCell ⟨b, 2, none⟩ u2).setCell ⟨b, 3, none⟩ u3)).heap[b]? = some (.cells #[u0, u1, u2, u3, a4, a5, a6, a7] ty (0, 0)) := heap_setCell_same _ b 3 _ _ u3 e2
  have e4 : ((((((W.setCell ⟨b, 0, none⟩ u0).setCell ⟨b, 1, none⟩ u1).setCell ⟨b, 2, none⟩ u2).setCell ⟨b, 3, none⟩ u3).setCell ⟨b, 4, none⟩ u4)).heap[b]? = some (.cells #[u0, u1, u2, u3, u4, a5, a6, a7] ty (0, 0)) := heap_setCell_same _ b 4 _ _ u4 e3
  have e5 : (((((((W.setCell ⟨b, 0, none⟩ u0).setCell ⟨b, 1, none⟩ u1).setCell ⟨b, 2, none⟩ u2).setCell ⟨b, 3, none⟩ u3).setCell ⟨b, 4, none⟩ u4).setCell ⟨b, 5, none⟩ u5)).heap[b]? = some (.cells #[u0, u1, u2, u3, u4, u5, a6, a7] ty (0, 0)) := heap_setCell_same _ b 5 _ _ u5 e4
  have e6 : ((((((((W.setCell ⟨b, 0, none⟩ u0).setCell ⟨b, 1, none⟩ u1).setCell ⟨b, 2, none⟩ u2).setCell ⟨b, 3, none⟩ u3).setCell ⟨b, 4, none⟩ u4).setCell ⟨b, 5, none⟩ u5).setCell ⟨b, 6, none⟩ u6)).heap[b]? = some (.cells #[u0, u1, u2, u3, u4, u5, u6, a7] ty (0, 0)) := heap_setCell_same _ b 6 _ _ u6 e5
  have e7 : (((((((((W.setCell ⟨b, 0, none⟩ u0).setCell ⟨b, 1, none⟩ u1).setCell ⟨b, 2, none⟩ u2).setCell ⟨b, 3, none⟩ u3).setCell ⟨b, 4, none⟩ u4).setCell ⟨b, 5, none⟩ u5).setCell ⟨b, 6, none⟩ u6).setCell ⟨b, 7, none⟩ u7)).heap[b]? = some (.cells #[u0, u1, u2, u3, u4, u5, u6, u7] ty (0, 0)) := heap_setCell_same _ b 7 _ _ u7 e6
  exact e7
theorem blk8b' {w2 w3 : World} {b : Nat} {o : Obj} (h : w2.heap[b]? = some o) (hb : Below w2.heap.size w2 w3) : w3.heap[b]? = some o := (hb.block b (Array.getElem?_eq_some_iff.1 h).1).trans h
/-- The result in its box: a table's task with jobs of its own. -/
theorem JR.box {W : World} {v : Value} {js : List Jb} (h : JR W v js) {b : Nat} {cs : Array Value} {fr : Nat × Nat} (hb : W.heap[b]? = some (.cells cs 56 fr)) (u0 u1 u2 u3 u4 u5 u6 u7 : Value) : JR ((((((((W.setCell ⟨b, 0, none⟩ u0).setCell ⟨b, 1, none⟩ u1).setCell ⟨b, 2, none⟩ u2).setCell ⟨b, 3, none⟩ u3).setCell ⟨b, 4, none⟩ u4).setCell ⟨b, 5, none⟩ u5).setCell ⟨b, 6, none⟩ u6).setCell ⟨b, 7, none⟩ u7) v js :=
  h.chg (chg_b8 u0 u1 u2 u3 u4 u5 u6 u7 (Chg.refl _ W)) (fun k cs' fr' hk e => by
    subst e
    rw [hb] at hk
    simp at hk)
theorem Chg.new {S : Nat → Prop} {a b : World} (h : Chg S a b) {p : Addr} (hp : a.heap.size ≤ p.block) (v : Value) : Chg S a (b.setCell p v) :=
  ⟨h.os, h.tape, h.output, by simpa using h.size, fun k hk hn => (Below.heap_setCell b p v k (by omega)).trans (h.block k hk hn)⟩
theorem PL.chg {w w' : World} {p t g cap : Nat} {last : Int} {xs : List Sk} (h : PL w p t g cap last xs) {S : Nat → Prop} (hc : Chg S w w') (h0 : ¬ S p) (h1 : ¬ S t) (h2 : ¬ S g) (hS : ∀ (k : Nat) (cs : Array Value) (fr : Nat × Nat), w.heap[k]? = some (.cells cs 32 fr) → ¬ S k) : PL w' p t g cap last xs :=
  ⟨hc.heap h.blk h0, h.tt.chg hc h1 h2 hS, h.tm, h.lr⟩
theorem job4 {w2 : World} {b : Nat} {a0 a1 a2 a3 : Value} {ty : TypeId} (h : w2.heap[b]? = some (.cells #[a0, a1, a2, a3] ty (0, 0))) :
    w2.cell? ⟨b, 0, none⟩ = some a0 ∧ w2.cell? ⟨b, 1, none⟩ = some a1 ∧ w2.cell? ⟨b, 2, none⟩ = some a2 ∧ w2.cell? ⟨b, 3, none⟩ = some a3 := by
  refine ⟨?_, ?_, ?_, ?_⟩ <;> simp [World.cell?, h]
theorem chg_base {w W : World} {g b : Nat} (h : Chg (fun k => k = g) w W) (hb : b ≤ w.heap.size) (hg : b ≤ g) : Below b w W := h.below hb (fun k e => by omega)

end Go.Proofs.Ytdilediiofenmaa

/- Of the text SK2 only what this claim needs (shake.py, this repo's). -/
set_option linter.unusedVariables false
set_option linter.unusedSimpArgs false
namespace Go.Proofs.Ytdilediiofenmaa
open Go.RowKit
open Go.Proofs.YtdilediiofenmaaW.PrintWords (Kd Drawn0 Kept rd rdOf)
open Go.Proofs.Ytdilediiofenmaa.PSlackRuns
set_option maxRecDepth 100000

theorem flatJ_get : ∀ (js : List Jb) (j : Nat), (flatJ js)[j]? = (js[j / 4]?).bind fun x => (cJ x)[j % 4]?
  | [], j => by simp [flatJ]
  | x :: r, j => by
    have e : flatJ (x :: r) = cJ x ++ flatJ r := rfl
    rw [e]
    by_cases h : j < 4
    · rw [List.getElem?_append_left (by simpa using h), show j / 4 = 0 by omega, show j % 4 = j by omega]
      rfl
    · obtain ⟨k, rfl⟩ : ∃ k, j = 4 + k := ⟨j - 4, by omega⟩
      have e2 : (cJ x).length = 4 := rfl
      rw [List.getElem?_append_right (by rw [e2]; omega), e2, Nat.add_sub_cancel_left, flatJ_get r k, show (4 + k) / 4 = k / 4 + 1 by omega, show (4 + k) % 4 = k % 4 by omega, List.getElem?_cons_succ]
theorem kJ_srcs {w : World} {A : Option Addr} {js : List Jb} (h : Kd.C kJ w A js.length js) (h0 : 0 < js.length) :
    ∃ ad, A = some ad ∧ ∀ j v, (flatJ js)[j]? = some v → w.cell? (ad.add j) = some v := by
  obtain ⟨ad, e, hc⟩ := h.2.2 h0
  refine ⟨ad, e, fun j v hv => ?_⟩
  rw [flatJ_get] at hv
  cases hx : js[j / 4]? with
  | none => rw [hx] at hv; simp at hv
  | some x =>
    rw [hx] at hv
    obtain ⟨c, hl, hk, hcell⟩ := hc (j / 4) x hx
    obtain rfl := k32_open hk
    have := hcell (j % 4) v hv
    rwa [show j / 4 * kJ.sz + j % 4 = j from (show j / 4 * 4 + j % 4 = j by omega)] at this
theorem run_copy_noneN {P : Program} (w : World) (dT sT ty elem : TypeId) (d a : Option Addr) (dLen dCap sLen sCap : Nat) (sz : Nat) (hu : P.underlying dT = some (.slice elem)) (hs : (P.info? elem).map (·.size) = some sz) (hn : Nat.min sLen dLen = 0) :
    (Builtin.copy_ #[dT, sT] ty #[.slice d dLen dCap, .slice a sLen sCap]).run P w = .ok (goInt 0) w := by
  cases hq : P.info? elem with
  | none => simp [hq] at hs
  | some i =>
    have hl : ∀ (x : Addr), (loadCells x 0).run P w = .ok #[] w := fun x => by simpa using run_loadCells_list (P := P) w x [] (by simp)
    cases d <;> cases a <;> simp [Builtin.copy_, run_underlying hu, Builtin.lenOf, Builtin.firstCells, sizeOf, typeInfo, hq, hn, storeCells, hl]
/-- copy into a row of jobs just made. -/
theorem wpList_copy_jobs {w : World} {ops : Array Oper} {rest : List Oper} {o : Oper} {a : Act} {Q : Exit → Act → World → Prop} (hgd : o.guard = none) (d s : Operand)
    (ho : o.op = .call { callee := .builtin .copy, args := #[d, s], argTypes := #[52, 52] })
    (g cap : Nat) (A : Option Addr) (c : Nat) (js : List Jb) (hd : a.eval d = .slice (some ⟨g, 0, none⟩) js.length cap) (hs : a.eval s = .slice A js.length c)
    (hR : kJ.R 32 w 0 (fun _ => True) (.slice (some ⟨g, 0, none⟩) js.length cap) (List.replicate js.length zJ)) (hC : Kd.C kJ w A js.length js)
    (h : ∀ w', kJ.R 32 w' 0 (fun k => k = g) (.slice (some ⟨g, 0, none⟩) js.length cap) js → Chg (fun k => k = g) w w' → w'.heap.size = w.heap.size → wpList Try.prog ops Q rest (a.put o.dst (goInt js.length)) w') : wpList Try.prog ops Q (o :: rest) a w := by
  by_cases h0 : 0 < js.length
  · obtain ⟨ad, rfl, hsrc⟩ := kJ_srcs hC h0
    obtain ⟨cur, hg, hsz, hR'⟩ := kJ_copied (xs := js) hR (Nat.le_refl _)
    rw [Nat.sub_self, List.replicate_zero, List.append_nil] at hR'
    refine wpList_copy_ownN hgd d s 52 52 ho 32 Try.underlying52 4 js.length (by kernel_rfl) g 0 js.length cap ad js.length c hd hs cur 32 hg (flatJ js) (Nat.min_eq_left (Nat.le_refl _)).symm (flatJ_len js) hsrc (by omega) (flatJ_one js) ?_
    refine h _ hR' ⟨rfl, rfl, rfl, by simp, fun k hk hn => setRow_other _ _ _ _ hn⟩ (by simp)
  · have e : js = [] := List.eq_nil_of_length_eq_zero (by omega)
    subst e
    refine wpList_plain hgd fun K hK => ?_
    have hrun := run_copy_noneN (P := Try.prog) w 52 52 o.type 32 (some ⟨g, 0, none⟩) A 0 cap 0 c 4 Try.underlying52 (by kernel_rfl) (by decide)
    unfold Oper.wp
    have hd' : a.eval d = .slice (some ⟨g, 0, none⟩) 0 cap := hd
    have hs' : a.eval s = .slice A 0 c := hs
    simp [execOp, ho, resolve, invoke, builtin, hd', hs', hrun, Result.andThen]
    refine hK _ _ (h w ?_ (Chg.refl _ w) rfl)
    exact kJ_of_own (kJ_inner hR) (fun k hk => by simp [Value.ownBlock] at hk; exact hk.symm)

theorem kJ_R0 {w : World} {n : Nat} (h : n ≤ 4294967296) : kJ.R 32 (w.alloc (.cells (madeCells (#[.int .i64 0, .int .i64 0, .int .i64 0, .int .i64 0] : Array Value) (n * 4)) 32)) 0 (fun _ => True) (.slice (some ⟨w.heap.size, 0, none⟩) n n) (List.replicate n zJ) := by
  have hl : (flatJ (List.replicate n zJ)).length = n * 4 := by rw [flatJ_len, List.length_replicate]
  refine kJ_of_own (xs := List.replicate n zJ) ⟨flatJ_len _, .inr ⟨w.heap.size, n, _, by rw [List.length_replicate], Nat.zero_le _, heap_alloc_new w _, by rw [List.length_replicate]; exact Nat.le_refl _, by unfold maxLen; omega, by rw [size_madeCells], ?_⟩⟩ (fun _ _ => trivial)
  rw [List.length_replicate]
  apply List.ext_getElem?
  intro j
  rw [List.getElem?_take, flatJ_get]
  by_cases hj : j < n * 4
  · rw [if_pos hj, List.getElem?_replicate, if_pos (by omega)]
    have hm : ((#[.int .i64 0, .int .i64 0, .int .i64 0, .int .i64 0] : Array Value)).toList[j % 4]? = some (.int .i64 0) := by
      have : j % 4 = 0 ∨ j % 4 = 1 ∨ j % 4 = 2 ∨ j % 4 = 3 := by omega
      rcases this with e | e | e | e <;> rw [e] <;> rfl
    have := made_at (sz := 4) (z := #[.int .i64 0, .int .i64 0, .int .i64 0, .int .i64 0]) (n := n) (i := j / 4) (j := j % 4) (u := .int .i64 0) rfl (by omega) hm
    rw [show j / 4 * 4 + j % 4 = j by omega] at this
    rw [Array.getElem?_toList, this]
    have : j % 4 = 0 ∨ j % 4 = 1 ∨ j % 4 = 2 ∨ j % 4 = 3 := by omega
    rcases this with e | e | e | e <;> rw [e] <;> rfl
  · rw [if_neg hj, List.getElem?_replicate, if_neg (by omega)]
    rfl

end Go.Proofs.Ytdilediiofenmaa

/- Of the text SK3 only what this claim needs (shake.py, this repo's). -/
set_option linter.unusedVariables false
set_option linter.unusedSimpArgs false
namespace Go.Proofs.Ytdilediiofenmaa
open Go.RowKit
open Go.Proofs.YtdilediiofenmaaW.PrintWords (Kd Drawn0 Kept rd rdOf)
open Go.Proofs.Ytdilediiofenmaa.PSlackRuns
set_option maxRecDepth 100000

theorem new_yes (p : Int) (w : World) (h : 0 ≤ p ∧ p ≤ 31) : Calls Try.prog 30 #[.int .i64 p] w fun e w' => ∃ v, e = .returned (.tuple #[Tk.v ⟨p, [], 0, 0, 0, 0, 0, 0⟩ v, .nilIface]) ∧ kJ.R 32 w' w.heap.size (fun _ => True) v [] ∧ Below w.heap.size w w' := by
  refine (task_New.calls p p [] 0 0 0 0 0 0 none w ?_).mono (fun e w' h => h)
  unfold task_New.f
  rw [is_f]
  simp [h.1, h.2]
theorem infoJ3 : (Try.prog.info? 32).map (fun i => (i.zero, i.size, i.bytes)) = some (some (.agg #[.int .i64 0, .int .i64 0, .int .i64 0, .int .i64 0]), 4, 32) := by kernel_rfl
set_option maxHeartbeats 2000000 in
theorem sown_ok (T : Tk) (v : Value) (w : World) (h : TR w v T.js) (hl : T.js.length ≤ 8) :
    Calls Try.prog 47 #[T.v v] w fun e w' => ∃ v', e = .returned (T.v v') ∧ JR w' v' T.js ∧ Below w.heap.size w w' := by
  obtain ⟨A, c, rfl, hc, hC⟩ := h
  obtain ⟨b1, hb1⟩ : ∃ b, b = w.heap.size := ⟨_, rfl⟩
  obtain ⟨b2, hb2⟩ : ∃ b, b = w.heap.size + 1 := ⟨_, rfl⟩
  obtain ⟨W0, hW0⟩ : ∃ W, W = (w.alloc (.cells #[.int .i64 T.p, .slice A T.js.length c, .int .i64 T.g, .int .i64 T.o, .int .i64 T.l, .int .i64 T.d, .int .i64 T.c, .int .i64 T.t] 56)).alloc (.cells #[.int .i64 0, .slice none 0 0, .int .i64 0, .int .i64 0, .int .i64 0, .int .i64 0, .int .i64 0, .int .i64 0] 56) := ⟨_, rfl⟩
  have hx : BX w.heap.size w W0 [T.cs (.slice A T.js.length c), zT.cs nilS] := by rw [hW0]; exact BX.new w [T.cs (.slice A T.js.length c), zT.cs nilS]
  have hs0 : W0.heap.size = w.heap.size + 2 := by rw [hW0]; simp
  obtain ⟨n, hn⟩ : ∃ n, n = T.js.length := ⟨_, rfl⟩
  obtain ⟨W1, hW1⟩ : ∃ W, W = W0.alloc (.cells (madeCells (#[.int .i64 0, .int .i64 0, .int .i64 0, .int .i64 0] : Array Value) (n * 4)) 32) := ⟨_, rfl⟩
  have hB01 : Below W0.heap.size W0 W1 := by rw [hW1]; exact (Below.refl _ W0).alloc (Nat.le_refl _) _
  have hR1 : kJ.R 32 W1 0 (fun _ => True) (.slice (some ⟨w.heap.size + 2, 0, none⟩) n n) (List.replicate n zJ) := by rw [hW1, ← hs0]; exact kJ_R0 (by omega)
  have hC1 := Kd.C_below (Kd.C_below hC hx.be) hB01
  rw [← hn] at hC1
  have hx1 := hx.call hB01
  have HX1 := Lib.hid hx1
  have HW1 := Lib.hid hW1
  have Hb1 := Lib.hid hb1
  have Hb2 := Lib.hid hb2
  have HS0 := Lib.hid hs0
  have HR1 := Lib.hid hR1
  have HC1 := Lib.hid hC1
  have HN := Lib.hid hn
  have hn8 : n ≤ 8 := by omega
  obtain ⟨q0, q1, q2, q3, q4, q5, q6, q7⟩ := hx.t8 0 (b := b1) (by rw [hb1]; rfl) rfl
  obtain ⟨s0, s1, s2, s3, s4, s5, s6, s7⟩ := hx1.t8 0 (b := w.heap.size) rfl rfl
  rw [← hn] at q1 s1 ⊢ hW0
  have HW0 := Lib.hid hW0
  clear hx hC hW0 hb1 hb2 hs0 hl hx1 hW1 hR1 hC1 hB01 hn hc
  go_enter Try.func47, Try.ntmps47
  go_wp2_with (first
    | (rw [← HW0.out]; refine wpList_make_rows _ rfl (.tmp 6) (.tmp 6) _ rfl 32 (.agg #[.int .i64 0, .int .i64 0, .int .i64 0, .int .i64 0]) 4 32 Try.underlying52 infoJ3 n rfl rfl (by omega) (by omega) ?_; rw [show (Value.agg #[.int .i64 0, .int .i64 0, .int .i64 0, .int .i64 0]).cells = #[.int .i64 0, .int .i64 0, .int .i64 0, .int .i64 0] from rfl, ← HW1.out, HS0.out])
    | (refine wpList_copy_jobs rfl (.tmp 8) (.tmp 10) rfl (w.heap.size + 2) n A c T.js (by rw [← HN.out]; rfl) (by rw [← HN.out]; rfl) (by rw [← HN.out]; exact HR1.out) (by rw [← HN.out]; exact HC1.out) ?_; intro w2 hR2 hC2 hs2; have HR2 := Lib.hid hR2; have hx2 := HX1.out.chg hC2 (fun k e => by subst e; exact Nat.le_refl _); have HX2 := Lib.hid hx2; obtain ⟨t0, t1, t2, t3, t4, t5, t6, t7⟩ := hx2.t8 0 (b := w.heap.size) rfl rfl; obtain ⟨p0, p1, p2, p3, p4, p5, p6, p7⟩ := hx2.t8 1 (b := w.heap.size + 1) rfl rfl; obtain ⟨m0, m1, m2, m3, m4, m5, m6, m7⟩ := hx2.f8 0 (b := w.heap.size) rfl rfl; obtain ⟨r0, r1, r2, r3, r4, r5, r6, r7⟩ := hx2.f8 1 (b := w.heap.size + 1) rfl rfl; clear hR2 hC2 hs2 hx2)
    | fail)
  have hn2 := HN.out
  subst hn2
  obtain ⟨S, hS⟩ : ∃ S, S = Value.slice (some ⟨w.heap.size + 2, 0, none⟩) T.js.length T.js.length := ⟨_, rfl⟩
  have HJ := Lib.hid (Kd.R_mono (ok' := fun _ => True) (Kd.R_step (w1 := ((((((((w2.setCell ⟨w.heap.size, 1, none⟩ S).setCell ⟨w.heap.size + 1, 0, none⟩ (.int .i64 T.p)).setCell ⟨w.heap.size + 1, 1, none⟩ S).setCell ⟨w.heap.size + 1, 2, none⟩ (.int .i64 T.g)).setCell ⟨w.heap.size + 1, 3, none⟩ (.int .i64 T.o)).setCell ⟨w.heap.size + 1, 4, none⟩ (.int .i64 T.l)).setCell ⟨w.heap.size + 1, 5, none⟩ (.int .i64 T.d)).setCell ⟨w.heap.size + 1, 6, none⟩ (.int .i64 T.c)).setCell ⟨w.heap.size + 1, 7, none⟩ (.int .i64 T.t)) (Kd.R_bound HR2.out) (fun k hk hlt => by
    have h1 : k = w.heap.size + 2 := hk.1
    have s : ∀ (W : World) (b j : Nat) (x : Value), k ≠ b → (W.setCell ⟨b, j, none⟩ x).heap[k]? = W.heap[k]? := fun W b j x h => Below.heap_setCell W ⟨b, j, none⟩ x k h
    rw [s _ _ _ _ (by omega), s _ _ _ _ (by omega), s _ _ _ _ (by omega), s _ _ _ _ (by omega), s _ _ _ _ (by omega), s _ _ _ _ (by omega), s _ _ _ _ (by omega), s _ _ _ _ (by omega), s _ _ _ _ (by omega)])) (fun _ _ => trivial))
  have hbb := HX2.out.be.setCell (p := ⟨w.heap.size, 1, none⟩) (Nat.le_refl _) S
  have HBB := Lib.hid (below_set8 hbb (b := w.heap.size + 1) (by omega) (.int .i64 T.p) S (.int .i64 T.g) (.int .i64 T.o) (.int .i64 T.l) (.int .i64 T.d) (.int .i64 T.c) (.int .i64 T.t))
  rw [hS] at HJ HBB
  refine bodyPost_ret (v := T.v (.slice (some ⟨w.heap.size + 2, 0, none⟩) T.js.length T.js.length)) ?_ rfl ⟨_, rfl, ?_, ?_⟩
  · simp [results, Try.f47, go_sem, p0, p1, p2, p3, p4, p5, p6, p7]
  · with_reducible exact JR.of_R HJ.out
  · with_reducible exact HBB.out

end Go.Proofs.Ytdilediiofenmaa

/- Of the text SK3c only what this claim needs (shake.py, this repo's). -/
set_option linter.unusedVariables false
set_option linter.unusedSimpArgs false
namespace Go.Proofs.Ytdilediiofenmaa
open Go.RowKit
open Go.Proofs.YtdilediiofenmaaW.PrintWords (Kd Drawn0 Kept rd rdOf)
open Go.Proofs.Ytdilediiofenmaa.PSlackRuns
set_option maxRecDepth 100000

theorem screate_hit (p t g cap i : Nat) (last prio : Int) (xs : List Sk) (x : Sk) (w : World) (H : PL w p t g cap last xs) (hp : 0 ≤ prio ∧ prio ≤ 31) (hx : xs[i]? = some x) (hf : FreeSk x) (ha : ∀ (j : Nat) (y : Sk), j < i → xs[j]? = some y → ¬ FreeSk y) :
    Calls Try.prog 9 #[.pointer (some ⟨p, 0, none⟩), .int .i64 prio] w fun e w' => ∃ v, e = .returned (.tuple #[.int .i64 (mk 3 i x.f0), .nilIface]) ∧ PL w' p t g cap last (xs.set i ⟨x.f0, true, v, ⟨prio, [], 0, 0, 0, 0, 0, 0⟩⟩) ∧ Chg (fun k => k = g) w w' := by
  have HN := Lib.hid (new_yes prio w hp)
  have HH := Lib.hid H
  have HX := Lib.hid hx
  have HF := Lib.hid hf
  have HA := Lib.hid ha
  clear H hp hx hf ha
  go_enter Try.func9, Try.ntmps9
  go_wp2_with fail
  refine HN.out.mono ?_
  rintro e w1 ⟨v, rfl, hR, hb⟩
  obtain ⟨A0, c0, rfl⟩ := Kd.R_slice hR
  obtain ⟨W2, hW2⟩ : ∃ W, W = w1.alloc (.cells #[.int .i64 prio, .slice A0 0 c0, .int .i64 0, .int .i64 0, .int .i64 0, .int .i64 0, .int .i64 0, .int .i64 0] 56) := ⟨_, rfl⟩
  have hb2 : Below w.heap.size w W2 := by rw [hW2]; exact below_alloc hb (Nat.le_refl _) _
  have hk2 : W2.heap[w1.heap.size]? = some (.cells #[.int .i64 prio, .slice A0 0 c0, .int .i64 0, .int .i64 0, .int .i64 0, .int .i64 0, .int .i64 0, .int .i64 0] 56 (0, 0)) := by rw [hW2]; exact heap_alloc_new w1 _
  have hj2 : JR W2 (.slice A0 ([] : List Jb).length c0) [] := by rw [hW2]; exact (JR.of_R hR).below ((Below.refl _ w1).alloc (Nat.le_refl _) _)
  have hs2 : w1.heap.size < W2.heap.size := (Array.getElem?_eq_some_iff.1 hk2).1
  have HB2 := Lib.hid hb2
  have HK2 := Lib.hid hk2
  have HJ2 := Lib.hid hj2
  have h2 := HH.out.below hb2
  have c0' := h2.c0
  have H2 := Lib.hid h2
  have HW2 := Lib.hid hW2
  obtain ⟨b6, hb6⟩ : ∃ b, b = w1.heap.size := ⟨_, rfl⟩
  have Hb6 := Lib.hid hb6
  rw [← hb6] at hk2 hs2
  obtain ⟨⟨q0, q1, q2, q3, q4, q5, q6, q7⟩, -⟩ := blk8 hk2
  have HAD := Lib.hid (fun W (hB : Below W2.heap.size W2 W) => tadd_hit t g 16 cap i 3 (.slice A0 ([] : List Jb).length c0) ⟨prio, [], 0, 0, 0, 0, 0, 0⟩ xs x W (H2.out.below hB).tt (H2.out.below hB).tm HX.out HF.out (HJ2.out.below hB) (Nat.zero_le _) HA.out)
  clear hR hb hb2 hk2 hj2 hW2 hb6 h2
  go_wp2_with fail
  rw [← HW2.out, ← Hb6.out]
  first | go_loud (go_region_law (first
    | (go_simp; go_at_call 31; refine (HAD.out _ (by first | exact Below.refl _ _ | exact below_drewN' (Below.refl _ _) 1)).mono ?_; rintro e w3 ⟨rfl, hT3, hC3⟩; have HT3 := Lib.hid hT3; have HC3 := Lib.hid ((Chg.ofBelow HB2.out (fun k => k = g)).trans (Chg.trans (by first | exact Chg.refl _ _ | exact Chg.drewN (Chg.refl _ _) 1) hC3)); clear hT3 hC3))) | fail
  all_goals
    go_wp2
    go_ret2
    refine ⟨_, rfl, HH.out.put HC3.out HT3.out (HH.out.tm.set i _ (HH.out.tm.gen i _ HX.out).1 (HH.out.tm.gen i _ HX.out).2 (fun _ => HF.out.2) (Nat.zero_le _)), HC3.out⟩

end Go.Proofs.Ytdilediiofenmaa

/- Of the text SK3o only what this claim needs (shake.py, this repo's). -/
set_option linter.unusedVariables false
set_option linter.unusedSimpArgs false
namespace Go.Proofs.Ytdilediiofenmaa
open Go.RowKit
open Go.Proofs.YtdilediiofenmaaW.PrintWords (Kd Drawn0 Kept rd rdOf)
open Go.Proofs.Ytdilediiofenmaa.PSlackRuns
set_option maxRecDepth 100000

set_option maxHeartbeats 1000000 in
theorem sof_hit (p t g cap i : Nat) (last h : Int) (xs : List Sk) (x : Sk) (w : World) (H : PL w p t g cap last xs) (ha : SAt 3 h xs i x) (hl : x.T.js.length ≤ 8) :
    Calls Try.prog 16 #[.pointer (some ⟨p, 0, none⟩), .int .i64 h] w fun e w' => ∃ v, e = .returned (.tuple #[x.T.v v, .nilIface]) ∧ JR w' v x.T.js ∧ Below w.heap.size w w' := by
  obtain ⟨B, d, hv⟩ := (H.tt.jr i x ha.1).slice
  have hj := H.tt.jr i x ha.1
  rw [hv] at hj
  obtain ⟨W0, hW0⟩ : ∃ W, W = w.alloc (.cells #[.int .i64 0, .slice none 0 0, .int .i64 0, .int .i64 0, .int .i64 0, .int .i64 0, .int .i64 0, .int .i64 0] 56) := ⟨_, rfl⟩
  have hB0 : Below w.heap.size w W0 := by rw [hW0]; exact (Below.refl _ w).alloc (Nat.le_refl _) _
  have hk0 : W0.heap[w.heap.size]? = some (.cells #[.int .i64 0, .slice none 0 0, .int .i64 0, .int .i64 0, .int .i64 0, .int .i64 0, .int .i64 0, .int .i64 0] 56 (0, 0)) := by rw [hW0]; exact heap_alloc_new w _
  have H0 := H.below hB0
  have c0 := (H.alloc (.cells #[.int .i64 0, .slice none 0 0, .int .i64 0, .int .i64 0, .int .i64 0, .int .i64 0, .int .i64 0, .int .i64 0] 56)).c0
  have G := tget_hit t g 16 cap i 3 h xs x W0 H0.tt H0.tm ha
  rw [hv] at G
  have HG := Lib.hid G
  have HJ := Lib.hid (hj.below hB0)
  have HB0 := Lib.hid hB0
  have HK0 := Lib.hid hk0
  have HW0 := Lib.hid hW0
  have HL := Lib.hid hl
  clear H ha hv hj hW0 hB0 hk0 H0 G hl
  go_enter Try.func16, Try.ntmps16
  go_wp2_with fail
  rw [← HW0.out]
  refine HG.out.mono ?_
  rintro e w1 ⟨rfl, hb⟩
  obtain ⟨W2, hW2⟩ : ∃ W, W = w1.alloc (.cells #[.int .i64 x.T.p, .slice B x.T.js.length d, .int .i64 x.T.g, .int .i64 x.T.o, .int .i64 x.T.l, .int .i64 x.T.d, .int .i64 x.T.c, .int .i64 x.T.t] 56) := ⟨_, rfl⟩
  have hb2 : Below W0.heap.size W0 W2 := by rw [hW2]; exact below_alloc hb (Nat.le_refl _) _
  have HB2 := Lib.hid hb2
  have HJ2 := Lib.hid (HJ.out.below hb2)
  have HW2 := Lib.hid hW2
  clear hb hW2 hb2 c0
  go_wp2_with fail
  rw [← HW2.out]
  refine (sown_ok x.T (.slice B x.T.js.length d) W2 HJ2.out.tr HL.out).mono ?_
  rintro e w3 ⟨v, rfl, hj3, hb3⟩
  obtain ⟨A3, c3, rfl⟩ := hj3.slice
  have hk3 := blk8b' (blk8b' HK0.out HB2.out) hb3
  obtain ⟨⟨q0, q1, q2, q3, q4, q5, q6, q7⟩, m0, m1, m2, m3, m4, m5, m6, m7⟩ := blk8 hk3
  have hb4 : Below w.heap.size w w3 := below_call (below_call HB0.out (Nat.le_refl _) HB2.out) (Nat.le_refl _) hb3
  have HB5 := Lib.hid (below_set8 hb4 (b := w.heap.size) (Nat.le_refl _) (.int .i64 x.T.p) (.slice A3 x.T.js.length c3) (.int .i64 x.T.g) (.int .i64 x.T.o) (.int .i64 x.T.l) (.int .i64 x.T.d) (.int .i64 x.T.c) (.int .i64 x.T.t))
  have HJ5 := Lib.hid (hj3.box hk3 (.int .i64 x.T.p) (.slice A3 x.T.js.length c3) (.int .i64 x.T.g) (.int .i64 x.T.o) (.int .i64 x.T.l) (.int .i64 x.T.d) (.int .i64 x.T.c) (.int .i64 x.T.t))
  clear hj3 hb3 hk3 hb4
  go_wp2
  refine bodyPost_ret (v := .tuple #[x.T.v (.slice A3 x.T.js.length c3), .nilIface]) ?_ rfl ?_
  · simp [results, Try.f16, go_sem, q0, q1, q2, q3, q4, q5, q6, q7]
  · refine ⟨.slice A3 x.T.js.length c3, rfl, ?_, ?_⟩
    · with_reducible exact HJ5.out
    · with_reducible exact HB5.out

end Go.Proofs.Ytdilediiofenmaa

/- Of the text SK3p only what this claim needs (shake.py, this repo's). -/
set_option linter.unusedVariables false
set_option linter.unusedSimpArgs false
namespace Go.Proofs.Ytdilediiofenmaa
open Go.RowKit
open Go.Proofs.YtdilediiofenmaaW.PrintWords (Kd Drawn0 Kept rd rdOf)
open Go.Proofs.Ytdilediiofenmaa.PSlackRuns
set_option maxRecDepth 100000

set_option maxHeartbeats 1000000 in
theorem spush_ok (p t g cap i : Nat) (last h now : Int) (y : Jb) (xs : List Sk) (x : Sk) (T1 : Tk) (w : World) (H : PL w p t g cap last xs) (ha : SAt 3 h xs i x) (hjl : x.T.js.length ≤ 8) (hp : pushF x.T y now = (T1, 0)) :
    Calls Try.prog 10 #[.pointer (some ⟨p, 0, none⟩), .int .i64 h, jv y, .int .i64 now] w fun e w' => ∃ v, e = .returned .nilIface ∧ PL w' p t g cap last (xs.set i ⟨x.f0, x.f1, v, T1⟩) ∧ Chg (fun k => k = g) w w' := by
  have hjl1 : T1.js.length ≤ 8 := by have := pushF_js x.T y now; rw [hp] at this; exact this
  obtain ⟨W0, hW0⟩ : ∃ W, W = w.alloc (.cells #[.int .i64 y.f0, .int .i64 y.f1, .int .i64 y.f2, .int .i64 y.f3] 32) := ⟨_, rfl⟩
  have hB0 : Below w.heap.size w W0 := by rw [hW0]; exact (Below.refl _ w).alloc (Nat.le_refl _) _
  have hk0 : W0.heap[w.heap.size]? = some (.cells #[.int .i64 y.f0, .int .i64 y.f1, .int .i64 y.f2, .int .i64 y.f3] 32 (0, 0)) := by rw [hW0]; exact heap_alloc_new w _
  have H0 := H.below hB0
  have HG := Lib.hid (sof_hit p t g cap i last h xs x W0 H0 ha hjl)
  have HP := Lib.hid hp
  have HJL := Lib.hid hjl
  have HJL1 := Lib.hid hjl1
  have HH := Lib.hid H
  have HA := Lib.hid ha
  have HB0 := Lib.hid hB0
  have HK0 := Lib.hid hk0
  have HW0 := Lib.hid hW0
  clear H ha hjl hjl1 hp hW0 hB0 hk0 H0
  go_enter Try.func10, Try.ntmps10
  go_wp2_with fail
  rw [← HW0.out]
  refine HG.out.mono ?_
  rintro e w1 ⟨v0, rfl, hj0, hb⟩
  obtain ⟨B, d, rfl⟩ := hj0.slice
  obtain ⟨W2, hW2⟩ : ∃ W, W = w1.alloc (.cells #[.int .i64 x.T.p, .slice B x.T.js.length d, .int .i64 x.T.g, .int .i64 x.T.o, .int .i64 x.T.l, .int .i64 x.T.d, .int .i64 x.T.c, .int .i64 x.T.t] 56) := ⟨_, rfl⟩
  have hb2 : Below W0.heap.size W0 W2 := by rw [hW2]; exact below_alloc hb (Nat.le_refl _) _
  have hj2 : JR W2 (.slice B x.T.js.length d) x.T.js := by rw [hW2]; exact hj0.below ((Below.refl _ w1).alloc (Nat.le_refl _) _)
  obtain ⟨b9, hb9⟩ : ∃ b, b = w1.heap.size := ⟨_, rfl⟩
  have hk9 : W2.heap[b9]? = some (.cells #[.int .i64 x.T.p, .slice B x.T.js.length d, .int .i64 x.T.g, .int .i64 x.T.o, .int .i64 x.T.l, .int .i64 x.T.d, .int .i64 x.T.c, .int .i64 x.T.t] 56 (0, 0)) := by rw [hW2, hb9]; exact heap_alloc_new w1 _
  have hlb : w.heap.size < b9 := by rw [hb9]; exact (Array.getElem?_eq_some_iff.1 (blk8b' HK0.out hb)).1
  have hk02 := blk8b' HK0.out hb2
  have l9 := (Array.getElem?_eq_some_iff.1 hk9).1
  have l0 := (Array.getElem?_eq_some_iff.1 hk02).1
  have HB2 := Lib.hid hb2
  have HJ2 := Lib.hid hj2
  have HW2 := Lib.hid hW2
  have Hb9 := Lib.hid hb9
  have HK9 := Lib.hid hk9
  have HLB := Lib.hid hlb
  obtain ⟨⟨q0, q1, q2, q3, q4, q5, q6, q7⟩, m0, m1, m2, m3, m4, m5, m6, m7⟩ := blk8 hk9
  have hk01 := blk8b' HK0.out hb
  have l01 := (Array.getElem?_eq_some_iff.1 hk01).1
  obtain ⟨s0, s1, s2, s3⟩ := job4 hk01
  clear hb hb2 hW2 hb9 hk9 hk02 hlb hk01 hj0 hj2
  go_wp2_with fail
  rw [← HW2.out, ← Hb9.out]
  clear s0 s1 s2 s3 l01
  refine (tpush_any x.T (.slice B x.T.js.length d) y now W2 HJ2.out.tr (by have := HJL.out; omega)).mono ?_
  rintro e w3 ⟨v3, he, hR3, hb3⟩
  rw [HP.out] at he hR3
  dsimp only at he hR3
  rw [errV_0] at he
  subst he
  obtain ⟨A3, c3, rfl⟩ := Kd.R_slice hR3
  have hk93 := blk8b' HK9.out hb3
  obtain ⟨⟨y0, y1, y2, y3, y4, y5, y6, y7⟩, r0, r1, r2, r3, r4, r5, r6, r7⟩ := blk8 hk93
  obtain ⟨W4, hW4⟩ : ∃ W, W = ((((((((w3.setCell ⟨b9, 0, none⟩ (.int .i64 T1.p)).setCell ⟨b9, 1, none⟩ (.slice A3 T1.js.length c3)).setCell ⟨b9, 2, none⟩ (.int .i64 T1.g)).setCell ⟨b9, 3, none⟩ (.int .i64 T1.o)).setCell ⟨b9, 4, none⟩ (.int .i64 T1.l)).setCell ⟨b9, 5, none⟩ (.int .i64 T1.d)).setCell ⟨b9, 6, none⟩ (.int .i64 T1.c)).setCell ⟨b9, 7, none⟩ (.int .i64 T1.t)) := ⟨_, rfl⟩
  have hgl := HH.out.tt.ltg
  have hl0 := HH.out.lt
  have hl1 := HH.out.tt.lt
  have hlb := HLB.out
  have C4 : Chg (fun k => k = b9) w3 W4 := by rw [hW4]; exact chg_b8 _ _ _ _ _ _ _ _ (Chg.refl _ w3)
  have hk94 : W4.heap[b9]? = some (.cells #[.int .i64 T1.p, .slice A3 T1.js.length c3, .int .i64 T1.g, .int .i64 T1.o, .int .i64 T1.l, .int .i64 T1.d, .int .i64 T1.c, .int .i64 T1.t] 56 (0, 0)) := by rw [hW4]; exact chain8' hk93
  have hj4 : JR W4 (.slice A3 T1.js.length c3) T1.js := by rw [hW4]; exact (JR.of_R hR3).box hk93 _ _ _ _ _ _ _ _
  have C04 : Chg (fun k => k = g) w W4 := ⟨C4.os.trans (hb3.os.trans (HB2.out.os.trans HB0.out.os)), C4.tape.trans (hb3.tape.trans (HB2.out.tape.trans HB0.out.tape)), C4.output.trans (hb3.output.trans (HB2.out.output.trans HB0.out.output)), Nat.le_trans HB0.out.size (Nat.le_trans HB2.out.size (Nat.le_trans hb3.size C4.size)), fun k hk hn => (C4.block k (by have := HB0.out.size; have := HB2.out.size; have := hb3.size; omega) (by omega)).trans ((hb3.block k (by have := HB0.out.size; have := HB2.out.size; omega)).trans ((HB2.out.block k (by have := HB0.out.size; omega)).trans (HB0.out.block k hk)))⟩
  have H4 : PL W4 p t g cap last xs := (((HH.out.below HB0.out).below HB2.out).below hb3).chg C4 (by omega) (by omega) (by omega) (fun k cs fr hk e => by subst e; rw [hk93] at hk; simp at hk)
  have c04 := H4.c0
  have HS4 := Lib.hid (fun W (hB : Below W4.heap.size W4 W) => tset_hit t g 16 cap i 3 h (.slice A3 T1.js.length c3) T1 xs x W (H4.below hB).tt (H4.below hB).tm HA.out (hj4.below hB))
  obtain ⟨⟨z0, z1, z2, z3, z4, z5, z6, z7⟩, -⟩ := blk8 hk94
  have HC04 := Lib.hid C04
  have HW4 := Lib.hid hW4
  clear hR3 hb3 hk93 hW4 C4 hk94 hj4 C04 H4 hgl hl0 hl1 hlb
  clear q0 q1 q2 q3 q4 q5 q6 q7 m0 m1 m2 m3 m4 m5 m6 m7
  go_wp2_with fail
  rw [← HW4.out]
  clear y0 y1 y2 y3 y4 y5 y6 y7 r0 r1 r2 r3 r4 r5 r6 r7
  first | go_loud (go_region_law (first
    | (go_simp; go_at_call 33; refine (HS4.out _ (by first | exact Below.refl _ _ | exact below_drewN' (Below.refl _ _) 1)).mono ?_; rintro e w5 ⟨rfl, hT5, hC5⟩; have HT5 := Lib.hid hT5; have HC5 := Lib.hid (HC04.out.trans (Chg.trans (by first | exact Chg.refl _ _ | exact Chg.drewN (Chg.refl _ _) 1) hC5)); clear hT5 hC5))) | fail
  all_goals
    go_wp2
    go_ret
    exact ⟨_, rfl, HH.out.put HC5.out HT5.out (HH.out.tm.set i _ (HH.out.tm.gen i x HA.out.1).1 (HH.out.tm.gen i x HA.out.1).2 (fun _ => HH.out.tm.top i x HA.out.1 HA.out.2.1) (by have := HJL1.out; show T1.js.length ≤ _; omega)), HC5.out⟩

end Go.Proofs.Ytdilediiofenmaa

/- Of the text SK5 only what this claim needs (shake.py, this repo's). -/
set_option linter.unusedVariables false
set_option linter.unusedSimpArgs false
namespace Go.Proofs.Ytdilediiofenmaa
open Go.RowKit
open Go.Proofs.YtdilediiofenmaaW.PrintWords (Kd Drawn0 Kept rd rdOf)
open Go.Proofs.Ytdilediiofenmaa.PSlackRuns
set_option maxRecDepth 100000

theorem sat_slot {kind h : Int} {n i : Nat} {xs : List Sk} {x : Sk} (hT : TM kind n xs) (ha : SAt kind h xs i x) : (if hokB h = true then hs h else -1) = (i : Int) ∧ i < n := by
  obtain ⟨hx, hf, he⟩ := ha
  have hi := (List.getElem?_eq_some_iff.1 hx).1
  have hl := hT.len
  have hn := hT.n1
  have g1 := hT.gen i x hx
  have g2 := hT.top i x hx hf
  have p := hk_mk kind (i : Int) x.f0 (by omega) (by omega) (by omega) (by omega)
  rw [he] at p
  have ok : hokB h = true := by
    unfold hokB
    rw [p.1, p.2.1, p.2.2]
    have := hT.k0; have := hT.k3
    exact decide_eq_true (by omega)
  exact ⟨by rw [if_pos ok, p.2.1], by omega⟩
theorem wayF_range (last : Int) (i : Nat) : 0 ≤ wayF last i ∧ wayF last i ≤ 15 := by unfold wayF; omega
theorem wayF_t {last : Int} {i : Nat} (h : -1 ≤ last ∧ last ≤ 15) (hi : i < 16) : ((i : Int) - last - 1 + 16).tmod 16 = wayF last i := by
  unfold wayF
  rw [Int.tmod_eq_emod_of_nonneg (by omega)]

set_option maxHeartbeats 4000000 in
theorem snext_ok (p t g cap : Nat) (last : Int) (xs : List Sk) (w : World) (H : PL w p t g cap last xs) :
    Calls Try.prog 17 #[.pointer (some ⟨p, 0, none⟩)] w fun e w' => e = .returned (.tuple #[.int .i64 (nextF last xs), .bool (nextF last xs != 0)]) ∧ Below w.heap.size w w' := by
  have HA := Lib.hid (tall_ok t g 16 cap 3 xs w H.tt H.tm)
  have c0 := H.c0
  have HH := Lib.hid H
  clear H
  go_enter Try.func17, Try.ntmps17
  go_wp2_with fail
  go_step3
  go_wp2_with fail
  go_step3
  go_wp2_with fail
  refine HA.out.mono ?_
  rintro e w1 ⟨v, rfl, hR, hb⟩
  obtain ⟨A, c, rfl⟩ := Kd.R_slice hR
  obtain ⟨n, hn⟩ : ∃ n, n = (tallH 3 xs).length := ⟨_, rfl⟩
  have HN : Hid (n = (tkL 0 xs).length ∧ n ≤ 16) := Lib.hid ⟨by rw [hn, tall_len], by rw [hn, tall_len]; have := tkL_len xs 0; have := HH.out.tm.len; omega⟩
  rw [← hn] at hR ⊢
  have HR := Lib.hid hR
  have HB := Lib.hid hb
  clear hR hb hn HA c0
  have hn8 : n ≤ 16 := HN.out.2
  go_wp2_with fail
  go_loopw [4, 5, 6, 20] (fun f q u i wr => ∃ (k : Nat) (fi pr fa : Int), k ≤ n ∧ f = .int .i64 fi ∧ q = .int .i64 pr ∧ u = .int .i64 fa ∧ i = .int .i64 k ∧ Hid (((tkL 0 xs).take k).foldl (nxStep last) (0, 0, 0) = (fi, pr, fa)) ∧ Hid (Below w.heap.size w wr) ∧ Hid (Below w1.heap.size w1 wr)) (fun _ _ _ i _ => n - (intOf i).toNat)
  case atStart => exact ⟨0, 0, 0, 0, Nat.zero_le _, rfl, rfl, rfl, rfl, Lib.hid rfl, HB, Lib.hid (Below.refl _ _)⟩
  case round =>
    clear HB
    obtain ⟨k, fi, pr, fa, hk, rfl, rfl, rfl, rfl, hF, hB, hB1⟩ := hrel
    by_cases hlt : k < n
    · obtain ⟨⟨i, x⟩, hx⟩ : ∃ q, (tkL 0 xs)[k]? = some q := ⟨_, List.getElem?_eq_getElem (by have := HN.out.1; omega)⟩
      have hs := tkL_at (kind := 3) hx
      obtain ⟨gh, rfl, hc⟩ := int_at HR.out (tall_at hx)
      have hcr := keep hB1.out hc
      have HLw := HH.out.below hB.out
      obtain ⟨B, d, hv⟩ := (HLw.tt.jr i x hs.1).slice
      have G := tget_hit t g 16 cap i 3 (mk 3 i x.f0) xs x wr HLw.tt HLw.tm hs
      have hj := HLw.tt.jr i x hs.1
      rw [hv] at G hj
      have c0 := HLw.c0
      have HG := Lib.hid G
      have HJ := Lib.hid hj
      have HX := Lib.hid hx
      obtain ⟨hsl, hi16⟩ := sat_slot HLw.tm hs
      obtain ⟨hh, hhh⟩ : ∃ y, y = mk 3 i x.f0 := ⟨_, rfl⟩
      rw [← hhh] at HG hcr hsl
      have HHH := Lib.hid hhh
      have HSL := Lib.hid (fun W => slot_q hh i W hsl)
      have HTK : Hid (((tkL 0 xs).take (k + 1)).foldl (nxStep last) (0, 0, 0) = nxStep last (fi, pr, fa) (i, x)) := Lib.hid (by
        rw [List.take_add_one, hx]
        simp only [Option.toList_some, List.foldl_append, hF.out, List.foldl_cons, List.foldl_nil])
      clear hs hc HLw hv G hj hx hhh hF hsl
      go_wp2_with fail
      refine HG.out.mono ?_
      rintro e w3 ⟨rfl, hb3⟩
      obtain ⟨W4, hW4⟩ : ∃ W, W = w3.alloc (.cells #[.int .i64 x.T.p, .slice B x.T.js.length d, .int .i64 x.T.g, .int .i64 x.T.o, .int .i64 x.T.l, .int .i64 x.T.d, .int .i64 x.T.c, .int .i64 x.T.t] 56) := ⟨_, rfl⟩
      obtain ⟨b7, hb7⟩ : ∃ b, b = w3.heap.size := ⟨_, rfl⟩
      have hb4 : Below wr.heap.size wr W4 := by rw [hW4]; exact below_alloc hb3 (Nat.le_refl _) _
      have hk7 : W4.heap[b7]? = some (.cells #[.int .i64 x.T.p, .slice B x.T.js.length d, .int .i64 x.T.g, .int .i64 x.T.o, .int .i64 x.T.l, .int .i64 x.T.d, .int .i64 x.T.c, .int .i64 x.T.t] 56 (0, 0)) := by rw [hW4, hb7]; exact heap_alloc_new w3 _
      have HJ4 := Lib.hid (HJ.out.below hb4)
      have HB4 := Lib.hid (below_call hB.out (Nat.le_refl _) hb4)
      have HB14 := Lib.hid (below_call hB1.out (Nat.le_refl _) hb4)
      have HK7 := Lib.hid hk7
      have HW4 := Lib.hid hW4
      have Hb7 := Lib.hid hb7
      clear hb3 hW4 hb7 hb4 hk7 hcr c0
      by_cases hj : x.T.js.length = 0
      · have HTR := Lib.hid (fun W (hB : Below W4.heap.size W4 W) => tready_c x.T (.slice B x.T.js.length d) false W (HJ4.out.below hB).tr (decide_eq_false (by omega)))
        have HST : Hid (nxStep last (fi, pr, fa) (i, x) = (fi, pr, fa)) := Lib.hid (if_neg (fun h => by have h1 := h.1; simp only at h1; omega))
        clear hj
        go_wp2_with fail
        rw [← HW4.out, ← Hb7.out]
        refine (HTR.out W4 (Below.refl _ _)).mono ?_
        rintro e w5 ⟨rfl, hb5⟩
        have HB5 := Lib.hid (below_call HB4.out (Nat.le_refl _) hb5)
        have HB15 := Lib.hid (below_call HB14.out (Nat.le_refl _) hb5)
        clear hb5
        go_wp2
        go_roundw
        case rel => exact ⟨k + 1, fi, pr, fa, by omega, rfl, rfl, rfl, by go_num, Lib.hid (by rw [HTK.out, HST.out]), HB5, HB15⟩
        case measure => simp [intOf]; omega
      · have HTR := Lib.hid (fun W (hB : Below W4.heap.size W4 W) => tready_c x.T (.slice B x.T.js.length d) true W (HJ4.out.below hB).tr (decide_eq_true (by omega)))
        have HJL : Hid (0 < x.T.js.length) := Lib.hid (by omega)
        clear hj
        go_wp2_with fail
        rw [← HW4.out, ← Hb7.out]
        refine (HTR.out W4 (Below.refl _ _)).mono ?_
        rintro e w5 ⟨rfl, hb5⟩
        have HB5 := Lib.hid (below_call HB4.out (Nat.le_refl _) hb5)
        have HB15 := Lib.hid (below_call HB14.out (Nat.le_refl _) hb5)
        have hp5 := HH.out.below HB5.out
        have hk75 := blk8b' HK7.out hb5
        have HK75 := Lib.hid hk75
        have c1 := hp5.c1
        have hlr := HH.out.lr
        obtain ⟨wy, hwy⟩ : ∃ y, y = wayF last i := ⟨_, rfl⟩
        have HWY := Lib.hid hwy
        have a1 : IntKind.i64.wrap ((i : Int) - last) = (i : Int) - last := IntWalk.i64_in _ (by omega)
        have a2 : IntKind.i64.wrap ((i : Int) - last - 1) = (i : Int) - last - 1 := IntWalk.i64_in _ (by omega)
        have a3 : IntKind.i64.wrap ((i : Int) - last - 1 + 16) = (i : Int) - last - 1 + 16 := IntWalk.i64_in _ (by omega)
        have a4 : ((i : Int) - last - 1 + 16).tmod 16 = wy := by rw [hwy]; exact wayF_t hlr hi16
        have a5 : IntKind.i64.wrap wy = wy := IntWalk.i64_in _ (by have := wayF_range last i; omega)
        have a6 : wrap64 wy = wy := by have := wayF_range last i; unfold wrap64; omega
        clear hb5 hp5 hwy hk75
        obtain ⟨⟨q0, q1, q2, q3, q4, q5, q6, q7⟩, -⟩ := blk8 HK75.out
        go_wp2_with fail
        go_quiet ((go_at_call 36; exact Calls.quiet_of (HSL.out _)))
        by_cases h0 : fi = 0
        · have k0 : (fi == 0) = true := by rw [beq_iff_eq]; exact h0
          have k0' : decide (fi = 0) = true := decide_eq_true h0
          have HST : Hid (nxStep last (fi, pr, fa) (i, x) = (hh, x.T.p, wy)) := Lib.hid (by rw [HHH.out, HWY.out]; exact if_pos ⟨HJL.out, .inl h0⟩)
          clear h0
          go_wp2_with fail
          go_quiet (fail)
          go_wp2_with fail
          go_roundw
          case rel => exact ⟨k + 1, hh, x.T.p, wy, by omega, rfl, rfl, rfl, by go_num, Lib.hid (by rw [HTK.out, HST.out]), Lib.hid (below_drewN' HB5.out _), Lib.hid (below_drewN' HB15.out _)⟩
          case measure => simp [intOf]; omega
        · have k0 : (fi == 0) = false := by rw [beq_eq_false_iff_ne]; exact h0
          have k0' : decide (fi = 0) = false := decide_eq_false h0
          by_cases h1 : x.T.p < pr
          · have k1 : decide (x.T.p < pr) = true := decide_eq_true h1
            have HST : Hid (nxStep last (fi, pr, fa) (i, x) = (hh, x.T.p, wy)) := Lib.hid (by rw [HHH.out, HWY.out]; exact if_pos ⟨HJL.out, .inr (.inl h1)⟩)
            clear h0 h1
            go_wp2_with fail
            go_quiet (fail)
            go_wp2_with fail
            go_roundw
            case rel => exact ⟨k + 1, hh, x.T.p, wy, by omega, rfl, rfl, rfl, by go_num, Lib.hid (by rw [HTK.out, HST.out]), Lib.hid (below_drewN' HB5.out _), Lib.hid (below_drewN' HB15.out _)⟩
            case measure => simp [intOf]; omega
          · have k1 : decide (x.T.p < pr) = false := decide_eq_false h1
            by_cases h2 : x.T.p = pr
            · have k2 : (x.T.p == pr) = true := by rw [beq_iff_eq]; exact h2
              have k2' : decide (x.T.p = pr) = true := decide_eq_true h2
              by_cases h3 : wy < fa
              · have k3 : decide (wy < fa) = true := decide_eq_true h3
                have HST : Hid (nxStep last (fi, pr, fa) (i, x) = (hh, x.T.p, wy)) := Lib.hid (by rw [HHH.out, HWY.out]; exact if_pos ⟨HJL.out, .inr (.inr ⟨h2, by rw [← HWY.out]; exact h3⟩)⟩)
                clear h0 h1 h2 h3
                go_wp2_with fail
                go_quiet (fail)
                go_wp2_with fail
                go_roundw
                case rel => exact ⟨k + 1, hh, x.T.p, wy, by omega, rfl, rfl, rfl, by go_num, Lib.hid (by rw [HTK.out, HST.out]), Lib.hid (below_drewN' HB5.out _), Lib.hid (below_drewN' HB15.out _)⟩
                case measure => simp [intOf]; omega
              · have k3 : decide (wy < fa) = false := decide_eq_false h3
                have HST : Hid (nxStep last (fi, pr, fa) (i, x) = (fi, pr, fa)) := Lib.hid (if_neg (by rintro ⟨-, q⟩; dsimp only at q; rw [← HWY.out] at q; omega))
                clear h0 h1 h2 h3
                go_wp2_with fail
                go_roundw
                case rel => exact ⟨k + 1, fi, pr, fa, by omega, rfl, rfl, rfl, by go_num, Lib.hid (by rw [HTK.out, HST.out]), Lib.hid (below_drewN' HB5.out _), Lib.hid (below_drewN' HB15.out _)⟩
                case measure => simp [intOf]; omega
            · have k2 : (x.T.p == pr) = false := by rw [beq_eq_false_iff_ne]; exact h2
              have k2' : decide (x.T.p = pr) = false := decide_eq_false h2
              have HST : Hid (nxStep last (fi, pr, fa) (i, x) = (fi, pr, fa)) := Lib.hid (if_neg (by rintro ⟨-, q⟩; dsimp only at q; rw [← HWY.out] at q; omega))
              clear h0 h1 h2
              go_wp2_with fail
              go_roundw
              case rel => exact ⟨k + 1, fi, pr, fa, by omega, rfl, rfl, rfl, by go_num, Lib.hid (by rw [HTK.out, HST.out]), Lib.hid (below_drewN' HB5.out _), Lib.hid (below_drewN' HB15.out _)⟩
              case measure => simp [intOf]; omega
    · have hkn : k = n := by omega
      have hf : nextF last xs = fi := by
        have h := hF.out
        rw [List.take_of_length_le (by have := HN.out.1; omega)] at h
        unfold nextF
        rw [h]
      have HNX := Lib.hid hf
      clear hf hkn
      go_wp2
      rw [Exit.noGoto_ret]
      go_ret2
      refine ⟨?_, hB.out⟩
      rw [HNX.out]
      rfl

end Go.Proofs.Ytdilediiofenmaa

/- Of the text SK6 only what this claim needs (shake.py, this repo's). -/
set_option linter.unusedVariables false
set_option linter.unusedSimpArgs false
namespace Go.Proofs.Ytdilediiofenmaa
open Go.RowKit
open Go.Proofs.YtdilediiofenmaaW.PrintWords (Kd Drawn0 Kept rd rdOf)
open Go.Proofs.Ytdilediiofenmaa.PSlackRuns
set_option maxRecDepth 100000

theorem results_tmp4 {fn : Func} {t u v y : Tmp} (h : fn.results = #[.tmp t, .tmp u, .tmp v, .tmp y]) (tmps : Array Value) (P : Program) (w : World) :
    (results fn tmps).run P w = .ok (.tuple #[tmps.getD t undef, tmps.getD u undef, tmps.getD v undef, tmps.getD y undef]) w := by
  simp [results, h]

set_option maxHeartbeats 2000000 in
theorem sgive_ok (p t g cap i : Nat) (last now wh by_ : Int) (xs : List Sk) (x : Sk) (T1 : Tk) (w : World) (H : PL w p t g cap last xs) (ha : SAt 3 (nextF last xs) xs i x) (hne : nextF last xs ≠ 0) (hp : runF x.T now = (T1, wh, by_, 0)) :
    Calls Try.prog 11 #[.pointer (some ⟨p, 0, none⟩), .int .i64 now] w fun e w' => ∃ v, e = .returned (.tuple #[.int .i64 (nextF last xs), .int .i64 wh, .int .i64 by_, .bool true]) ∧ PL w' p t g cap (i : Int) (xs.set i ⟨x.f0, x.f1, v, T1⟩) ∧ Chg (fun k => k = g ∨ k = p) w w' := by
  have HRD := snext_ok p t g cap last xs w H
  obtain ⟨hh, hhh⟩ : ∃ y, y = nextF last xs := ⟨_, rfl⟩
  rw [← hhh] at HRD ha hne ⊢
  have hne' : (hh != 0) = true := by rw [bne_iff_ne]; exact hne
  rw [hne'] at HRD
  have HRD := Lib.hid HRD
  obtain ⟨B, d, hv⟩ := (H.tt.jr i x ha.1).slice
  have hj := H.tt.jr i x ha.1
  rw [hv] at hj
  have hjl := H.tm.js i x ha.1
  have hjl1 : T1.js.length ≤ 8 := by have := @runF_js x.T now; rw [hp] at this; exact this
  have G := fun W (hB : Below w.heap.size w W) => tget_hit t g 16 cap i 3 hh xs x W (H.below hB).tt (H.below hB).tm ha
  rw [hv] at G
  have HG := Lib.hid G
  have HJ := Lib.hid hj
  have HP := Lib.hid hp
  have HJL := Lib.hid hjl
  have HJL1 := Lib.hid hjl1
  have HH := Lib.hid H
  have HA := Lib.hid ha
  obtain ⟨hsl, hi16⟩ := sat_slot H.tm ha
  have HSL := Lib.hid (fun W => slot_q hh i W hsl)
  clear H ha hv hj hjl hjl1 hp G hhh hne hne' hsl
  go_enter Try.func11, Try.ntmps11
  go_wp2_with fail
  refine HRD.out.mono ?_
  rintro e W0 ⟨rfl, hb0⟩
  have HB0 := Lib.hid hb0
  have c0 := (HH.out.below hb0).c0
  clear hb0
  go_wp2_with fail
  refine (HG.out _ HB0.out).mono ?_
  rintro e w1 ⟨rfl, hb⟩
  obtain ⟨W2, hW2⟩ : ∃ W, W = w1.alloc (.cells #[.int .i64 x.T.p, .slice B x.T.js.length d, .int .i64 x.T.g, .int .i64 x.T.o, .int .i64 x.T.l, .int .i64 x.T.d, .int .i64 x.T.c, .int .i64 x.T.t] 56) := ⟨_, rfl⟩
  have hb2 : Below W0.heap.size W0 W2 := by rw [hW2]; exact below_alloc hb (Nat.le_refl _) _
  obtain ⟨b9, hb9⟩ : ∃ b, b = w1.heap.size := ⟨_, rfl⟩
  have hk9 : W2.heap[b9]? = some (.cells #[.int .i64 x.T.p, .slice B x.T.js.length d, .int .i64 x.T.g, .int .i64 x.T.o, .int .i64 x.T.l, .int .i64 x.T.d, .int .i64 x.T.c, .int .i64 x.T.t] 56 (0, 0)) := by rw [hW2, hb9]; exact heap_alloc_new w1 _
  have hlb : w.heap.size ≤ b9 := by rw [hb9]; exact Nat.le_trans HB0.out.size hb.size
  have l9 := (Array.getElem?_eq_some_iff.1 hk9).1
  have HB2 := Lib.hid hb2
  have HW2 := Lib.hid hW2
  have Hb9 := Lib.hid hb9
  have HK9 := Lib.hid hk9
  have HLB := Lib.hid hlb
  obtain ⟨⟨q0, q1, q2, q3, q4, q5, q6, q7⟩, m0, m1, m2, m3, m4, m5, m6, m7⟩ := blk8 hk9
  clear hb hb2 hW2 hb9 hk9 hlb c0
  go_wp2_with fail
  rw [← HW2.out, ← Hb9.out]
  refine (trun_any x.T (.slice B x.T.js.length d) now W2 ((HJ.out.below HB0.out).below HB2.out).tr HJL.out).mono ?_
  rintro e w3 ⟨v3, he, hR3, hb3⟩
  rw [HP.out] at he hR3
  dsimp only at he hR3
  rw [errV_0] at he
  subst he
  obtain ⟨A3, c3, rfl⟩ := Kd.R_slice hR3
  have hk93 := blk8b' HK9.out hb3
  obtain ⟨⟨y0, y1, y2, y3, y4, y5, y6, y7⟩, r0, r1, r2, r3, r4, r5, r6, r7⟩ := blk8 hk93
  obtain ⟨W4, hW4⟩ : ∃ W, W = ((((((((w3.setCell ⟨b9, 0, none⟩ (.int .i64 T1.p)).setCell ⟨b9, 1, none⟩ (.slice A3 T1.js.length c3)).setCell ⟨b9, 2, none⟩ (.int .i64 T1.g)).setCell ⟨b9, 3, none⟩ (.int .i64 T1.o)).setCell ⟨b9, 4, none⟩ (.int .i64 T1.l)).setCell ⟨b9, 5, none⟩ (.int .i64 T1.d)).setCell ⟨b9, 6, none⟩ (.int .i64 T1.c)).setCell ⟨b9, 7, none⟩ (.int .i64 T1.t)) := ⟨_, rfl⟩
  have hgl := HH.out.tt.ltg
  have hl0 := HH.out.lt
  have hl1 := HH.out.tt.lt
  have hlb := HLB.out
  have C4 : Chg (fun k => k = b9) w3 W4 := by rw [hW4]; exact chg_b8 _ _ _ _ _ _ _ _ (Chg.refl _ w3)
  have hk94 : W4.heap[b9]? = some (.cells #[.int .i64 T1.p, .slice A3 T1.js.length c3, .int .i64 T1.g, .int .i64 T1.o, .int .i64 T1.l, .int .i64 T1.d, .int .i64 T1.c, .int .i64 T1.t] 56 (0, 0)) := by rw [hW4]; exact chain8' hk93
  have hj4 : JR W4 (.slice A3 T1.js.length c3) T1.js := by rw [hW4]; exact (JR.of_R hR3).box hk93 _ _ _ _ _ _ _ _
  have C04 : Chg (fun k => k = g) w W4 := ⟨C4.os.trans (hb3.os.trans (HB2.out.os.trans HB0.out.os)), C4.tape.trans (hb3.tape.trans (HB2.out.tape.trans HB0.out.tape)), C4.output.trans (hb3.output.trans (HB2.out.output.trans HB0.out.output)), Nat.le_trans HB0.out.size (Nat.le_trans HB2.out.size (Nat.le_trans hb3.size C4.size)), fun k hk hn => (C4.block k (by have := HB0.out.size; have := HB2.out.size; have := hb3.size; omega) (by omega)).trans ((hb3.block k (by have := HB0.out.size; have := HB2.out.size; omega)).trans ((HB2.out.block k (by have := HB0.out.size; omega)).trans (HB0.out.block k hk)))⟩
  have H4 : PL W4 p t g cap last xs := (((HH.out.below HB0.out).below HB2.out).below hb3).chg C4 (by omega) (by omega) (by omega) (fun k cs fr hk e => by subst e; rw [hk93] at hk; simp at hk)
  have c04 := H4.c0
  have HS4 := Lib.hid (fun W (hB : Below W4.heap.size W4 W) => tset_hit t g 16 cap i 3 hh (.slice A3 T1.js.length c3) T1 xs x W (H4.below hB).tt (H4.below hB).tm HA.out (hj4.below hB))
  obtain ⟨⟨z0, z1, z2, z3, z4, z5, z6, z7⟩, -⟩ := blk8 hk94
  have HC04 := Lib.hid C04
  have HW4 := Lib.hid hW4
  clear hR3 hb3 hk93 hW4 C4 hk94 hj4 C04 H4 hgl hl0 hl1 hlb
  clear q0 q1 q2 q3 q4 q5 q6 q7 m0 m1 m2 m3 m4 m5 m6 m7
  go_wp2_with fail
  rw [← HW4.out]
  clear y0 y1 y2 y3 y4 y5 y6 y7 r0 r1 r2 r3 r4 r5 r6 r7
  first | go_loud (go_region_law (first
    | (go_simp; go_at_call 33; refine (HS4.out _ (by first | exact Below.refl _ _ | exact below_drewN' (Below.refl _ _) 1)).mono ?_; rintro e w5 ⟨rfl, hT5, hC5⟩; have HT5 := Lib.hid hT5; have HC5 := Lib.hid (HC04.out.trans (Chg.trans (by first | exact Chg.refl _ _ | exact Chg.drewN (Chg.refl _ _) 1) hC5)); clear hT5 hC5))) | fail
  all_goals
    have HL5 := Lib.hid (HH.out.put HC5.out HT5.out (HH.out.tm.set i _ (HH.out.tm.gen i x HA.out.1).1 (HH.out.tm.gen i x HA.out.1).2 (fun _ => HH.out.tm.top i x HA.out.1 HA.out.2.1) (by have := HJL1.out; show T1.js.length ≤ _; omega)))
    clear c04 z0 z1 z2 z3 z4 z5 z6 z7
    go_wp2_with fail
    refine (HSL.out _).mono ?_
    rintro e w6 ⟨rfl, m, hw6⟩
    have hp6 : PL w6 p t g cap last (xs.set i ⟨x.f0, x.f1, .slice A3 T1.js.length c3, T1⟩) := by rw [hw6]; exact HL5.out.below (below_drewN' (Below.refl _ _) m)
    have c16 := hp6.c1
    have f16 := hp6.fz 1
    have HP7 := Lib.hid (hp6.setLast i (by omega))
    have HC7 := Lib.hid (show Chg (fun k => k = g ∨ k = p) w (w6.setCell ⟨p, 1, none⟩ (.int .i64 (i : Int))) from Chg.setCell (by rw [hw6]; exact (HC5.out.mono (fun _ _ e => .inl e)).drewN m) ⟨p, 1, none⟩ _ (.inr rfl))
    clear hp6 hw6
    go_wp2
    (try simp only [Exit.inBlock, Exit.then]); refine bodyPost_ret (results_tmp4 rfl _ _ _) rfl ?_
    exact ⟨_, rfl, HP7.out, HC7.out⟩

end Go.Proofs.Ytdilediiofenmaa

/- Of the text SR0 only what this claim needs (shake.py, this repo's). -/
set_option linter.unusedVariables false
set_option linter.unusedSimpArgs false
namespace Go.Proofs.Ytdilediiofenmaa
open Go.RowKit
open Go.Proofs.Ytdilediiofenmaa.PSlackRuns
set_option maxRecDepth 100000

/-- A task that is always ready, behind c ticks. -/
abbrev TRd (prio c : Int) : Tk := ⟨prio, [⟨1000 - c, 0, 0, 0⟩], c, c, 0, 0, 0, 0⟩
abbrev TBk (prio : Int) : Tk := ⟨prio + 1, [⟨9, 0, 0, 0⟩], 0, 0, 0, 0, 0, 0⟩
abbrev T0 (p : Int) : Tk := ⟨p, [], 0, 0, 0, 0, 0, 0⟩
theorem T0_ok {p : Int} (h : 0 ≤ p ∧ p ≤ 31) : (T0 p).okB = true := by
  unfold Tk.okB accP
  simp [h]
theorem push_T0 {p n : Int} (h : 0 ≤ p ∧ p ≤ 31) (hn : 1 ≤ n ∧ n ≤ 1048576) : pushF (T0 p) ⟨n, 0, 0, 0⟩ 0 = (⟨p, [⟨n, 0, 0, 0⟩], 0, 0, 0, 0, 0, 0⟩, 0) := by
  unfold pushF
  have hj : jobB (atJ ⟨n, 0, 0, 0⟩ 0) = true := by
    unfold jobB jobP atJ
    exact decide_eq_true (by dsimp only; omega)
  rw [if_neg (by rw [T0_ok h]; decide), if_neg (by omega), if_neg (by rw [hj]; decide), if_neg (by simp)]
  rfl
theorem okB_of {T : Tk} (h1 : 0 ≤ T.p ∧ T.p ≤ 31) (h2 : T.js.length ≤ 8) (h3 : accP T) (h4 : ∀ x ∈ T.js, jobP x) : T.okB = true := by
  unfold Tk.okB
  simp only [Bool.and_eq_true, decide_eq_true_eq, List.all_eq_true]
  exact ⟨⟨⟨h1, h2⟩, h3⟩, fun x hx => decide_eq_true (h4 x hx)⟩
theorem TRd_ok {p c : Int} (h : 0 ≤ p ∧ p ≤ 31) (hc : 0 ≤ c ∧ c ≤ 900) : (TRd p c).okB = true := by
  refine okB_of h (by simp) ?_ (fun y hy => ?_)
  · unfold accP; dsimp only; omega
  · have e : y = ⟨1000 - c, 0, 0, 0⟩ := by simpa using hy
    rw [e]
    unfold jobP; dsimp only; omega
theorem run_TRd {p c now : Int} (h : 0 ≤ p ∧ p ≤ 31) (hc : 0 ≤ c ∧ c ≤ 900) (hn : 0 ≤ now ∧ now ≤ 1000) : runF (TRd p c) now = (TRd p (c + 1), 0, 0, 0) := by
  rw [run_cons (TRd_ok h hc) (by omega) rfl, if_neg (by show ¬ c = _; omega), if_neg (by show ¬ 1000 - c = 1; omega), if_neg (by show ¬ (0 : Int) = 1; decide)]
  have e : lessJ ⟨1000 - c, 0, 0, 0⟩ = ⟨1000 - (c + 1), 0, 0, 0⟩ := by
    unfold lessJ
    simp only [Int.lt_irrefl, if_false]
    rw [show 1000 - c - 1 = 1000 - (c + 1) by omega]
  rw [e]

/-- The search, slot by slot. -/
def nxF (last : Int) : Nat → List Sk → Int × Int × Int → Int × Int × Int
  | _, [], s => s
  | i, x :: r, s => nxF last (i + 1) r (if x.f1 = true then nxStep last s (i, x) else s)
theorem nxF_tk (last : Int) : ∀ (xs : List Sk) (i : Nat) (s : Int × Int × Int), (tkL i xs).foldl (nxStep last) s = nxF last i xs s
  | [], i, s => rfl
  | x :: r, i, s => by
    unfold tkL nxF
    by_cases h : x.f1 = true
    · rw [if_pos h, if_pos h, List.foldl_cons, nxF_tk last r]
    · rw [if_neg h, if_neg h, nxF_tk last r]
theorem nxF_snoc (last : Int) (x : Sk) : ∀ (xs : List Sk) (i : Nat) (s : Int × Int × Int), nxF last i (xs ++ [x]) s = if x.f1 = true then nxStep last (nxF last i xs s) (i + xs.length, x) else nxF last i xs s
  | [], i, s => by simp [nxF]
  | y :: r, i, s => by
    simp only [List.cons_append, nxF, nxF_snoc last x r, List.length_cons, show i + 1 + r.length = i + (r.length + 1) by omega]
theorem nxF_take (last : Int) {xs : List Sk} {k : Nat} {x : Sk} (h : xs[k]? = some x) (s : Int × Int × Int) :
    nxF last 0 (xs.take (k + 1)) s = if x.f1 = true then nxStep last (nxF last 0 (xs.take k) s) (k, x) else nxF last 0 (xs.take k) s := by
  have hk := (List.getElem?_eq_some_iff.1 h).1
  rw [ttake_snoc xs k x h, nxF_snoc]
  simp [Nat.min_eq_left (Nat.le_of_lt hk)]

/-- The slots behind t ticks: m tasks of one priority, one that is less urgent, free ones. -/
structure RI (m : Nat) (prio : Int) (t : Nat) (xs : List Sk) : Prop where
  len : xs.length = 16
  m0 : 1 ≤ m ∧ m ≤ 15
  pr : 0 ≤ prio ∧ prio ≤ 30
  lo : ∀ i, i < m → ∃ v c, xs[i]? = some ⟨1, true, v, TRd prio c⟩ ∧ 0 ≤ c ∧ c ≤ (t : Int)
  bk : ∃ v, xs[m]? = some ⟨1, true, v, TBk prio⟩
  hi : ∀ i, m < i → i < 16 → xs[i]? = some oneSk
theorem mk3_ne (i : Nat) : Proofs.Ytdilediiofenmaa.mk 3 (i : Int) 1 ≠ 0 := by unfold Proofs.Ytdilediiofenmaa.mk; omega
theorem RI.fold {m : Nat} {prio : Int} {t : Nat} {xs : List Sk} (h : RI m prio t xs) {l : Int} (hl : -1 ≤ l ∧ l < m) : ∀ k, k ≤ m →
    nxF l 0 (xs.take k) (0, 0, 0) = if k = 0 then (0, 0, 0) else if (k : Int) ≤ l + 1 then (Proofs.Ytdilediiofenmaa.mk 3 0 1, prio, 15 - l) else (Proofs.Ytdilediiofenmaa.mk 3 (l + 1) 1, prio, 0)
  | 0, _ => by simp [nxF]
  | k + 1, hk => by
    have m0 := h.m0
    have ih := RI.fold h hl k (by omega)
    obtain ⟨v, c, hx, -⟩ := h.lo k (by omega)
    have hw : wayF l k = if (k : Int) ≤ l then (k : Int) - l + 15 else (k : Int) - l - 1 := by unfold wayF; split <;> omega
    have hstep : nxF l 0 (xs.take (k + 1)) (0, 0, 0) = nxStep l (nxF l 0 (xs.take k) (0, 0, 0)) (k, ⟨1, true, v, TRd prio c⟩) := by rw [nxF_take l hx, if_pos rfl]
    rw [hstep, if_neg (show ¬ (k + 1 = 0) by omega)]
    by_cases k0 : k = 0
    · rw [if_pos k0] at ih
      rw [ih]
      unfold nxStep
      rw [if_pos ⟨by show 0 < 1; omega, .inl rfl⟩]
      show (Proofs.Ytdilediiofenmaa.mk 3 (k : Int) 1, prio, wayF l k) = _
      rw [hw]
      by_cases c1 : l = -1
      · rw [if_neg (show ¬ ((k : Int) ≤ l) by omega), if_neg (show ¬ (((k + 1 : Nat) : Int) ≤ l + 1) by omega)]
        have e1 : (k : Int) = l + 1 := by omega
        have e2 : (k : Int) - l - 1 = 0 := by omega
        rw [e2, e1]
      · rw [if_pos (show (k : Int) ≤ l by omega), if_pos (show ((k + 1 : Nat) : Int) ≤ l + 1 by omega)]
        have e1 : (k : Int) = 0 := by omega
        have e2 : (k : Int) - l + 15 = 15 - l := by omega
        rw [e2, e1]
    · rw [if_neg k0] at ih
      by_cases c1 : (k : Int) ≤ l
      · rw [if_pos (show (k : Int) ≤ l + 1 by omega)] at ih
        rw [ih, if_pos (show ((k + 1 : Nat) : Int) ≤ l + 1 by omega)]
        unfold nxStep
        rw [if_neg]
        rintro ⟨-, q | q | q⟩
        · exact mk3_ne 0 q
        · dsimp only at q; omega
        · have := q.2; dsimp only at this; rw [hw, if_pos c1] at this; omega
      · by_cases c2 : (k : Int) = l + 1
        · rw [if_pos (show (k : Int) ≤ l + 1 by omega)] at ih
          rw [ih, if_neg (show ¬ (((k + 1 : Nat) : Int) ≤ l + 1) by omega)]
          unfold nxStep
          rw [if_pos ⟨by show 0 < 1; omega, .inr (.inr ⟨rfl, by show wayF l k < 15 - l; rw [hw, if_neg c1]; omega⟩)⟩]
          show (Proofs.Ytdilediiofenmaa.mk 3 (k : Int) 1, prio, wayF l k) = _
          rw [hw, if_neg c1]
          have e2 : (k : Int) - l - 1 = 0 := by omega
          rw [e2, c2]
        · rw [if_neg (show ¬ ((k : Int) ≤ l + 1) by omega)] at ih
          rw [ih, if_neg (show ¬ (((k + 1 : Nat) : Int) ≤ l + 1) by omega)]
          unfold nxStep
          rw [if_neg]
          rintro ⟨-, q | q | q⟩
          · have : Proofs.Ytdilediiofenmaa.mk 3 (l + 1) 1 ≠ 0 := by unfold Proofs.Ytdilediiofenmaa.mk; omega
            exact this q
          · dsimp only at q; omega
          · have := q.2; dsimp only at this; rw [hw, if_neg c1] at this; omega
theorem RI.rest {m : Nat} {prio : Int} {t : Nat} {xs : List Sk} (h : RI m prio t xs) {l : Int} (hl : -1 ≤ l ∧ l < m) : ∀ k, m ≤ k → k ≤ 16 →
    nxF l 0 (xs.take k) (0, 0, 0) = nxF l 0 (xs.take m) (0, 0, 0)
  | k, hk, h16 => by
    have m0 := h.m0
    induction k with
    | zero => omega
    | succ k ih =>
      by_cases e : m = k + 1
      · rw [e]
      · by_cases e2 : m = k
        · subst e2
          obtain ⟨v, hx⟩ := h.bk
          rw [nxF_take l hx, if_pos rfl]
          rw [RI.fold h hl m (Nat.le_refl _), if_neg (by omega)]
          unfold nxStep
          rw [if_neg]
          rintro ⟨-, q⟩
          split at q
          · rcases q with q | q | q
            · exact mk3_ne 0 q
            · dsimp only at q; omega
            · have := q.1; dsimp only at this; omega
          · rcases q with q | q | q
            · have : Proofs.Ytdilediiofenmaa.mk 3 (l + 1) 1 ≠ 0 := by unfold Proofs.Ytdilediiofenmaa.mk; omega
              exact this q
            · dsimp only at q; omega
            · have := q.1; dsimp only at this; omega
        · rw [nxF_take l (h.hi k (by omega) (by omega)), if_neg (by decide)]
          exact ih (by omega) (by omega)
def lastF (m t : Nat) : Int := if t = 0 then -1 else (((t - 1) % m : Nat) : Int)
theorem lastF_lt {m t : Nat} (hm : 1 ≤ m) : -1 ≤ lastF m t ∧ lastF m t < m := by
  unfold lastF
  split
  · omega
  · have := Nat.mod_lt (t - 1) (show 0 < m by omega); omega
theorem lastF_succ {m t : Nat} : lastF m (t + 1) = ((t % m : Nat) : Int) := by unfold lastF; rw [if_neg (by omega)]; simp
theorem next_mod {m t : Nat} (hm : 1 ≤ m) : ((t % m : Nat) : Int) = if lastF m t + 1 < m then lastF m t + 1 else 0 := by
  unfold lastF
  by_cases h : t = 0
  · subst h
    simp
  · obtain ⟨s, rfl⟩ : ∃ s, t = s + 1 := ⟨t - 1, by omega⟩
    rw [if_neg h]
    simp only [Nat.add_sub_cancel]
    have hd := Nat.div_add_mod s m
    have hr := Nat.mod_lt s (show 0 < m by omega)
    have e : (s + 1) % m = (s % m + 1) % m := by
      conv => lhs; rw [← hd, Nat.add_assoc, Nat.mul_add_mod]
    rw [e]
    by_cases c : s % m + 1 < m
    · rw [Nat.mod_eq_of_lt c, if_pos (by omega)]; omega
    · have : s % m + 1 = m := by omega
      rw [this, Nat.mod_self, if_neg (by omega)]; rfl
theorem RI.next {m : Nat} {prio : Int} {t : Nat} {xs : List Sk} (h : RI m prio t xs) : nextF (lastF m t) xs = Proofs.Ytdilediiofenmaa.mk 3 ((t % m : Nat) : Int) 1 := by
  have m0 := h.m0
  have hl := lastF_lt (m := m) (t := t) m0.1
  unfold nextF
  rw [nxF_tk, ← List.take_of_length_le (Nat.le_of_eq h.len), RI.rest h hl 16 (by omega) (Nat.le_refl _), RI.fold h hl m (Nat.le_refl _), if_neg (by omega), next_mod m0.1]
  by_cases c : lastF m t + 1 < m
  · rw [if_neg (by omega), if_pos c]
  · rw [if_pos (by omega), if_neg c]
theorem RI.at {m : Nat} {prio : Int} {t : Nat} {xs : List Sk} (h : RI m prio t xs) : ∃ v c, SAt 3 (nextF (lastF m t) xs) xs (t % m) ⟨1, true, v, TRd prio c⟩ ∧ 0 ≤ c ∧ c ≤ (t : Int) := by
  obtain ⟨v, c, hx, hc⟩ := h.lo (t % m) (Nat.mod_lt _ (by have := h.m0; omega))
  exact ⟨v, c, ⟨hx, rfl, by rw [h.next]⟩, hc⟩
theorem RI.step {m : Nat} {prio : Int} {t : Nat} {xs : List Sk} (h : RI m prio t xs) {v' : Value} {c : Int} (hc : 0 ≤ c ∧ c ≤ (t : Int)) : RI m prio (t + 1) (xs.set (t % m) ⟨1, true, v', TRd prio (c + 1)⟩) := by
  have m0 := h.m0
  have hm := Nat.mod_lt t (show 0 < m by omega)
  refine ⟨by simpa using h.len, h.m0, h.pr, fun i hi => ?_, ?_, fun i hi h16 => ?_⟩
  · by_cases e : t % m = i
    · subst e
      exact ⟨v', c + 1, by rw [List.getElem?_set]; simp [h.len]; omega, by omega, by omega⟩
    · obtain ⟨v, c', hx, h1, h2⟩ := h.lo i hi
      exact ⟨v, c', by rw [List.getElem?_set, if_neg e]; exact hx, h1, by omega⟩
  · obtain ⟨v, hx⟩ := h.bk
    exact ⟨v, by rw [List.getElem?_set, if_neg (by omega)]; exact hx⟩
  · rw [List.getElem?_set, if_neg (by omega)]
    exact h.hi i hi h16
/-- The slots while tasks are made. -/
structure CI (k : Nat) (prio : Int) (xs : List Sk) : Prop where
  len : xs.length = 16
  lo : ∀ i, i < k → ∃ v, xs[i]? = some ⟨1, true, v, TRd prio 0⟩
  hi : ∀ i, k ≤ i → i < 16 → xs[i]? = some oneSk
theorem CI.start (prio : Int) : CI 0 prio (List.replicate 16 oneSk) := ⟨by simp, fun i hi => by omega, fun i _ h => by rw [List.getElem?_replicate, if_pos h]⟩
theorem CI.free {k : Nat} {prio : Int} {xs : List Sk} (h : CI k prio xs) : ∀ (j : Nat) (y : Sk), j < k → xs[j]? = some y → ¬ FreeSk y := by
  intro j y hj hy hf
  obtain ⟨v, hx⟩ := h.lo j hj
  rw [hx] at hy
  have : y = ⟨1, true, v, TRd prio 0⟩ := by simpa using hy.symm
  subst this
  exact absurd hf.1 (by simp)
theorem CI.step {k : Nat} {prio : Int} {xs : List Sk} (h : CI k prio xs) (hk : k < 16) (v1 v2 : Value) (T : Tk) : CI (k + 1) prio ((xs.set k ⟨1, true, v1, T⟩).set k ⟨1, true, v2, TRd prio 0⟩) := by
  rw [set_set]
  refine ⟨by simpa using h.len, fun i hi => ?_, fun i hi h16 => ?_⟩
  · by_cases e : k = i
    · subst e
      exact ⟨v2, by rw [List.getElem?_set]; simp [h.len, hk]⟩
    · obtain ⟨v, hx⟩ := h.lo i (by omega)
      exact ⟨v, by rw [List.getElem?_set, if_neg e]; exact hx⟩
  · rw [List.getElem?_set, if_neg (by omega)]
    exact h.hi i (by omega) h16
theorem CI.done {k : Nat} {prio : Int} {xs : List Sk} (h : CI k prio xs) (hk : 1 ≤ k ∧ k ≤ 15) (hp : 0 ≤ prio ∧ prio ≤ 30) (v1 v2 : Value) (T : Tk) : RI k prio 0 ((xs.set k ⟨1, true, v1, T⟩).set k ⟨1, true, v2, TBk prio⟩) := by
  rw [set_set]
  refine ⟨by simpa using h.len, hk, hp, fun i hi => ?_, ⟨v2, by rw [List.getElem?_set]; simp [h.len]; omega⟩, fun i hi h16 => ?_⟩
  · obtain ⟨v, hx⟩ := h.lo i hi
    exact ⟨v, 0, by rw [List.getElem?_set, if_neg (by omega)]; simpa using hx, by omega, by omega⟩
  · rw [List.getElem?_set, if_neg (by omega)]
    exact h.hi i (by omega) h16

end Go.Proofs.Ytdilediiofenmaa

/- Of the text SK7 only what this claim needs (shake.py, this repo's). -/
set_option linter.unusedVariables false
set_option linter.unusedSimpArgs false
namespace Go.Proofs.Ytdilediiofenmaa
open Go.RowKit
open Go.Proofs.YtdilediiofenmaaW.PrintWords (Kd Drawn0 Kept rd rdOf)
open Go.Proofs.Ytdilediiofenmaa.PSlackRuns
set_option maxRecDepth 100000

theorem sready_ok (p t g cap : Nat) (last : Int) (xs : List Sk) (w : World) (H : PL w p t g cap last xs) :
    Calls Try.prog 22 #[.pointer (some ⟨p, 0, none⟩)] w fun e w' => e = .returned (.bool (nextF last xs != 0)) ∧ Below w.heap.size w w' := by
  have HN := Lib.hid (snext_ok p t g cap last xs w H)
  clear H
  go_enter Try.func22, Try.ntmps22
  go_wp2_with fail
  refine HN.out.mono ?_
  rintro e w1 ⟨rfl, hb⟩
  have HB := Lib.hid hb
  clear hb
  go_wp2
  go_ret
  exact ⟨rfl, HB.out⟩

theorem ta_yes (k : Int) (w : World) : (Instr.typeAssert (.iface 82 (.int .i64 k)) 27 82 true).run Try.prog w = .ok (.tuple #[.int .i64 k, .bool true]) w := by kernel_rfl
attribute [local go_sem] ta_yes
theorem snum_err (k : Int) (w : World) : Calls Try.prog 19 #[.iface 82 (.int .i64 k)] w fun e w' => e = .returned (.int .i64 k) ∧ w = w' := by
  go_enter Try.func19, Try.ntmps19
  go_wp2
  go_ret
  exact ⟨rfl, rfl⟩
abbrev J2 : Jb := ⟨2, 0, 0, 0⟩
abbrev Tw (js : List Jb) (g d : Int) : Tk := ⟨0, js, g, g, 0, d, 0, 0⟩
abbrev ws (v0 v1 : Value) (Ta Tb : Tk) : List Sk := ((List.replicate 16 oneSk).set 0 ⟨1, true, v0, Ta⟩).set 1 ⟨1, true, v1, Tb⟩
theorem ws_a (v0 v1 : Value) (Ta Tb : Tk) : SAt 3 (mk 3 (0 : Nat) 1) (ws v0 v1 Ta Tb) 0 ⟨1, true, v0, Ta⟩ := ⟨rfl, rfl, rfl⟩
theorem ws_b (v0 v1 : Value) (Ta Tb : Tk) : SAt 3 (mk 3 (1 : Nat) 1) (ws v0 v1 Ta Tb) 1 ⟨1, true, v1, Tb⟩ := ⟨rfl, rfl, rfl⟩
theorem ws_next (v0 v1 : Value) (Ta Tb : Tk) (last : Int) : nextF last (ws v0 v1 Ta Tb) = (nxStep last (nxStep last (0, 0, 0) (0, ⟨1, true, v0, Ta⟩)) (1, ⟨1, true, v1, Tb⟩)).1 := rfl
theorem wrun0 (now : Int) (h : 0 ≤ now ∧ now ≤ 9) : runF (Tw [J2] 0 0) now = (Tw [⟨1, 0, 0, 0⟩] 1 0, 0, 0, 0) := by
  unfold runF
  rw [if_neg (by decide), if_neg (by omega)]
  rfl
theorem wrun1 (now : Int) (h : 0 ≤ now ∧ now ≤ 9) : runF (Tw [⟨1, 0, 0, 0⟩] 1 0) now = (⟨0, [], 2, 2, 0, 1, 0, 0⟩, 1, 0, 0) := by
  unfold runF
  rw [if_neg (by decide), if_neg (by omega)]
  rfl
theorem sno_zero {kind : Int} {n : Nat} {xs : List Sk} (h : TM kind n xs) : SNo kind 0 xs := by
  rintro i x ⟨hx, -, e⟩
  have := (h.gen i x hx).1
  have := h.k0
  unfold mk at e
  omega

set_option maxHeartbeats 4000000 in
theorem works14_ok (w : World) : Calls Try.prog 12 #[] w fun e w' => e = .returned (.bool true) ∧ Below w.heap.size w w' := by
  obtain ⟨a, ha⟩ : ∃ y, y = mk 3 (0 : Nat) 1 := ⟨_, rfl⟩
  obtain ⟨b, hb⟩ : ∃ y, y = mk 3 (1 : Nat) 1 := ⟨_, rfl⟩
  have hab : (a == b) = false := by rw [ha, hb]; decide
  have hba : (b == a) = false := by rw [ha, hb]; decide
  have HA := Lib.hid ha
  have HBB := Lib.hid hb
  clear ha hb
  go_enter Try.func12, Try.ntmps12
  go_wp2_with fail
  refine (snew_ok _).mono ?_
  rintro e w1 ⟨p, t, g, cap, rfl, hL, hp, ht, hg, hb⟩
  have HL := Lib.hid hL
  have HB := Lib.hid hb
  have HG := Lib.hid hg
  have HP := Lib.hid hp
  clear hL hb hp ht hg
  go_wp2_with fail
  refine (screate_hit p t g cap 0 (-1) 0 (List.replicate 16 oneSk) oneSk _ HL.out (by omega) rfl ⟨rfl, by decide⟩ (fun j y hj => absurd hj (Nat.not_lt_zero j))).mono ?_
  rintro e w2 ⟨v0, rfl, hL2, hc2⟩
  rw [show mk 3 ((0 : Nat) : Int) oneSk.f0 = a from HA.out.symm]
  have HL2 := Lib.hid hL2
  have HB2 := Lib.hid (HB.out.trans (chg_base hc2 HB.out.size HG.out))
  clear hL2 hc2
  go_wp2_with fail
  refine (screate_hit p t g cap 1 (-1) 0 _ oneSk _ HL2.out (by omega) rfl ⟨rfl, by decide⟩ (fun j y hj hy => by
    obtain rfl : j = 0 := by omega
    have : y = ⟨oneSk.f0, true, v0, ⟨0, [], 0, 0, 0, 0, 0, 0⟩⟩ := by simpa using hy.symm
    subst this
    exact fun q => by simp [FreeSk] at q)).mono ?_
  rintro e w3 ⟨v1, rfl, hL3, hc3⟩
  rw [show mk 3 ((1 : Nat) : Int) oneSk.f0 = b from HBB.out.symm]
  have HL3 : Hid (PL w3 p t g cap (-1) (ws v0 v1 (T0 0) (T0 0))) := Lib.hid hL3
  have HB3 := Lib.hid (HB2.out.trans (chg_base hc3 HB2.out.size HG.out))
  clear hL3 hc3
  go_wp2_with fail
  refine (spush_ok p t g cap 0 (-1) a 0 J2 _ _ _ _ HL3.out (by rw [HA.out]; exact ws_a v0 v1 (T0 0) (T0 0)) (Nat.zero_le _) (push_T0 (p := 0) (n := 2) (by omega) (by omega))).mono ?_
  rintro e w4 ⟨v2, rfl, hL4, hc4⟩
  have HL4 : Hid (PL w4 p t g cap (-1) (ws v2 v1 (Tw [J2] 0 0) (T0 0))) := Lib.hid hL4
  have HB4 := Lib.hid (HB3.out.trans (chg_base hc4 HB3.out.size HG.out))
  clear hL4 hc4
  go_wp2_with fail
  refine (spush_ok p t g cap 1 (-1) b 0 J2 _ _ _ _ HL4.out (by rw [HBB.out]; exact ws_b v2 v1 (Tw [J2] 0 0) (T0 0)) (Nat.zero_le _) (push_T0 (p := 0) (n := 2) (by omega) (by omega))).mono ?_
  rintro e w5 ⟨v3, rfl, hL5, hc5⟩
  have HL5 : Hid (PL w5 p t g cap (-1) (ws v2 v3 (Tw [J2] 0 0) (Tw [J2] 0 0))) := Lib.hid hL5
  have HB5 := Lib.hid (HB4.out.trans (chg_base hc5 HB4.out.size HG.out))
  clear hL5 hc5
  have n1 : nextF (-1) (ws v2 v3 (Tw [J2] 0 0) (Tw [J2] 0 0)) = a := by rw [HA.out, ws_next]; simp [nxStep, wayF, mk]
  have HN1 := Lib.hid n1
  clear n1
  go_wp2_with fail
  refine (sgive_ok p t g cap 0 (-1) 0 0 0 _ _ _ _ HL5.out (by rw [HN1.out, HA.out]; exact ws_a v2 v3 _ _) (by rw [HN1.out, HA.out]; decide) (wrun0 0 (by omega))).mono ?_
  rintro e w6 ⟨v4, rfl, hL6, hc6⟩
  rw [HN1.out]
  have HL6 : Hid (PL w6 p t g cap 0 (ws v4 v3 (Tw [⟨1, 0, 0, 0⟩] 1 0) (Tw [J2] 0 0))) := Lib.hid hL6
  have HB6 := Lib.hid (HB5.out.trans (hc6.below HB5.out.size (fun k e => by have := HG.out; have := HP.out; omega)))
  clear hL6 hc6
  have n2 : nextF 0 (ws v4 v3 (Tw [⟨1, 0, 0, 0⟩] 1 0) (Tw [J2] 0 0)) = b := by rw [HBB.out, ws_next]; simp [nxStep, wayF, mk]
  have HN2 := Lib.hid n2
  clear n2
  go_wp2_with fail
  refine (sgive_ok p t g cap 1 0 1 0 0 _ _ _ _ HL6.out (by rw [HN2.out, HBB.out]; exact ws_b v4 v3 _ _) (by rw [HN2.out, HBB.out]; decide) (wrun0 1 (by omega))).mono ?_
  rintro e w7 ⟨v5, rfl, hL7, hc7⟩
  rw [HN2.out]
  have HL7 : Hid (PL w7 p t g cap 1 (ws v4 v5 (Tw [⟨1, 0, 0, 0⟩] 1 0) (Tw [⟨1, 0, 0, 0⟩] 1 0))) := Lib.hid hL7
  have HB7 := Lib.hid (HB6.out.trans (hc7.below HB6.out.size (fun k e => by have := HG.out; have := HP.out; omega)))
  clear hL7 hc7
  have n3 : nextF 1 (ws v4 v5 (Tw [⟨1, 0, 0, 0⟩] 1 0) (Tw [⟨1, 0, 0, 0⟩] 1 0)) = a := by rw [HA.out, ws_next]; simp [nxStep, wayF, mk]
  have HN3 := Lib.hid n3
  clear n3
  go_wp2_with fail
  refine (sgive_ok p t g cap 0 1 2 1 0 _ _ _ _ HL7.out (by rw [HN3.out, HA.out]; exact ws_a v4 v5 _ _) (by rw [HN3.out, HA.out]; decide) (wrun1 2 (by omega))).mono ?_
  rintro e w8 ⟨v6, rfl, hL8, hc8⟩
  rw [HN3.out]
  have HL8 : Hid (PL w8 p t g cap 0 (ws v6 v5 ⟨0, [], 2, 2, 0, 1, 0, 0⟩ (Tw [⟨1, 0, 0, 0⟩] 1 0))) := Lib.hid hL8
  have HB8 := Lib.hid (HB7.out.trans (hc8.below HB7.out.size (fun k e => by have := HG.out; have := HP.out; omega)))
  clear hL8 hc8
  have n4 : nextF 0 (ws v6 v5 ⟨0, [], 2, 2, 0, 1, 0, 0⟩ (Tw [⟨1, 0, 0, 0⟩] 1 0)) = b := by rw [HBB.out, ws_next]; simp [nxStep, wayF, mk]
  have HN4 := Lib.hid n4
  clear n4
  have hbz : (b != 0) = true := by rw [HBB.out]; decide
  go_wp2_with fail
  refine (sready_ok p t g cap 0 _ _ HL8.out).mono ?_
  rintro e w9 ⟨rfl, hb9⟩
  rw [HN4.out, hbz]
  have HL9 := Lib.hid (HL8.out.below hb9)
  have HB9 := Lib.hid (below_call HB8.out (Nat.le_refl _) hb9)
  clear hb9
  go_wp2_with fail
  refine (srem_miss p t g cap 0 0 _ _ HL9.out (sno_zero HL9.out.tm)).mono ?_
  rintro e wa ⟨rfl, hba⟩
  have HBa := Lib.hid (below_call HB9.out (Nat.le_refl _) hba)
  clear hba
  go_wp2_with fail
  refine (snum_err 20 _).mono ?_
  rintro e w_ ⟨rfl, rfl⟩
  go_wp2
  go_ret
  exact ⟨rfl, HBa.out⟩

end Go.Proofs.Ytdilediiofenmaa
