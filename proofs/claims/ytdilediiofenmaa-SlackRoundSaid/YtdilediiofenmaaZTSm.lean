/- Of the text TS0 only what this claim needs (shake.py, this repo's). -/
import Derived.Test.YtdilediiofenmaaZTmA
import Derived.Laws.BitsLemmas
import Derived.Test.YtdilediiofenmaaZPSlackRunsx5
import Derived.Test.YtdilediiofenmaaZPSlackRunsx7
import Derived.Test.YtdilediiofenmaaZPSlackRunsx8
import Derived.Test.YtdilediiofenmaaZPSlackRunsx10
import Derived.Test.YtdilediiofenmaaZPSlackRunsx9
import Derived.Test.YtdilediiofenmaaZPSlackRunsx11
import Derived.Test.YtdilediiofenmaaZTpB
import Derived.OwnWalk
import Derived.Laws.MakeOwn
set_option linter.unusedVariables false
set_option linter.unusedSimpArgs false
namespace Go.Proofs.Ytdilediiofenmaa
open Go.RowKit
open Go.Proofs.YtdilediiofenmaaW.PrintWords (Kd Drawn0 Kept rd rdOf)
open Go.Proofs.Ytdilediiofenmaa.PSlackRuns

def hk (h : Int) : Int := h / 1099511627776
def hs (h : Int) : Int := h / 1048576 % 1048576
def hg (h : Int) : Int := h % 1048576
def hokB (h : Int) : Bool := decide (1 ≤ hk h ∧ hk h ≤ 3 ∧ hs h ≤ 65535 ∧ 1 ≤ hg h ∧ hg h ≤ 1023)
def mk (k s g : Int) : Int := k * 1099511627776 + s * 1048576 + g

theorem and_mask (h : Int) : Go.bits .and .i64 h 1048575 = h % 1048576 := by
  have e : (BitVec.ofInt 64 h &&& BitVec.ofInt 64 1048575).toNat = (h % 18446744073709551616).toNat % 1048576 := by
    rw [BitVec.toNat_and, BitVec.toNat_ofInt, show (BitVec.ofInt 64 1048575).toNat = 2 ^ 20 - 1 from rfl, Nat.and_two_pow_sub_one_eq_mod]
    simp
  have e2 : Go.bits .and .i64 h 1048575 = IntKind.i64.wrap (((BitVec.ofInt 64 h &&& BitVec.ofInt 64 1048575).toNat : Nat) : Int) := rfl
  rw [e2, e, IntKind.wrap_i64]
  omega

theorem i64_wraps (n : Int) (h₀ : 0 ≤ n) (h₁ : n < 2 ^ 63) : IntKind.i64.wrap n = n := by rw [IntKind.wrap_i64]; omega

theorem or_mk (k s g : Int) (hk0 : 1 ≤ k) (hk3 : k ≤ 3) (hs0 : 0 ≤ s) (hs1 : s < 1048576) (hg0 : 0 ≤ g) (hg1 : g < 1048576) :
    Go.bits .or .i64 (Go.bits .or .i64 (wrap64 (k * 1099511627776)) (wrap64 (s * 1048576))) g = mk k s g := by
  have e1 : wrap64 (k * 1099511627776) = k * 1099511627776 := by unfold wrap64; omega
  have e2 : wrap64 (s * 1048576) = s * 1048576 := by unfold wrap64; omega
  rw [e1, e2, bits_join .i64 63 (by decide) i64_wraps 40 (k * 1099511627776) (s * 1048576) (by omega) (by omega) (by omega) (by omega) (by omega) (by omega)]
  rw [bits_join .i64 63 (by decide) i64_wraps 20 (k * 1099511627776 + s * 1048576) g (by omega) (by omega) (by omega) (by omega) (by omega) (by omega)]
  rfl

theorem hk_mk (k s g : Int) (hs0 : 0 ≤ s) (hs1 : s < 1048576) (hg0 : 0 ≤ g) (hg1 : g < 1048576) : hk (mk k s g) = k ∧ hs (mk k s g) = s ∧ hg (mk k s g) = g := by
  unfold hk hs hg mk; omega
theorem mk_parts (h : Int) : mk (hk h) (hs h) (hg h) = h := by unfold hk hs hg mk; omega
theorem hs_range (h : Int) : 0 ≤ hs h ∧ hs h < 1048576 := by unfold hs; omega
theorem make_f (k s g : Int) (hk0 : 1 ≤ k) (hk3 : k ≤ 3) (hs0 : 0 ≤ s) (hs1 : s ≤ 65535) (hg0 : 1 ≤ g) (hg1 : g ≤ 1023) : handle_Make.f k s g = some (mk k s g, none) := by
  unfold handle_Make.f
  rw [if_neg (by omega), if_neg (by omega), if_neg (by omega), if_neg (by omega), if_neg (by omega), if_neg (by omega), or_mk k s g hk0 hk3 hs0 (by omega) (by omega) (by omega)]
theorem make_f_bad (k s g : Int) (h : ¬ (1 ≤ k ∧ k ≤ 3 ∧ 0 ≤ s ∧ s ≤ 65535 ∧ 1 ≤ g ∧ g ≤ 1023)) : handle_Make.f k s g = some (0, some 1) := by
  unfold handle_Make.f
  repeat' split
  all_goals first | rfl | (exfalso; omega)
theorem parts_f (h : Int) : handle_parts.f h = some (hk h, hs h, hg h) := by
  unfold handle_parts.f
  rw [and_mask, and_mask]; rfl
theorem valid_f (h : Int) : handle_Valid.f h = some (hokB h) := by
  unfold handle_Valid.f
  rw [parts_f]
  simp only [Option.bind_some]
  have r := hs_range h
  by_cases c : 1 ≤ hk h ∧ hk h ≤ 3 ∧ hs h ≤ 65535 ∧ 1 ≤ hg h ∧ hg h ≤ 1023
  · rw [make_f _ _ _ c.1 c.2.1 r.1 c.2.2.1 c.2.2.2.1 c.2.2.2.2]
    simp only [Option.bind_some, Option.isNone, if_true]
    unfold hokB; simp [c]
  · rw [make_f_bad _ _ _ (by omega)]
    simp only [Option.bind_some, Option.isNone]
    unfold hokB; simp [c]
theorem kind_f (h : Int) : handle_Kind.f h = some (if hokB h = true then hk h else 0) := by
  unfold handle_Kind.f
  rw [valid_f, parts_f]
  simp only [Option.bind_some]
  split <;> rfl
theorem slot_f (h : Int) : handle_Slot.f h = some (if hokB h = true then hs h else -1) := by
  unfold handle_Slot.f
  rw [valid_f, parts_f]
  simp only [Option.bind_some]
  split <;> rfl
theorem gen_f (h : Int) : handle_Gen.f h = some (if hokB h = true then hg h else 0) := by
  unfold handle_Gen.f
  rw [valid_f, parts_f]
  simp only [Option.bind_some]
  split <;> rfl

theorem make_q (k s g : Int) (w : World) (hk0 : 1 ≤ k) (hk3 : k ≤ 3) (hs0 : 0 ≤ s) (hs1 : s ≤ 65535) (hg0 : 1 ≤ g) (hg1 : g ≤ 1023) :
    Calls Try.prog 81 #[.int .i64 k, .int .i64 s, .int .i64 g] w fun e w' => e = .returned (.tuple #[.int .i64 (mk k s g), .nilIface]) ∧ ∃ m, w' = w.drewN m :=
  (handle_Make.calls k s g _ _ w (make_f k s g hk0 hk3 hs0 hs1 hg0 hg1)).mono fun _ _ h => ⟨h.1, h.2.out⟩
theorem kind_q (h v : Int) (w : World) (e : (if hokB h = true then hk h else 0) = v) :
    Calls Try.prog 86 #[.int .i64 h] w fun e w' => e = .returned (.int .i64 v) ∧ ∃ m, w' = w.drewN m :=
  (handle_Kind.calls h _ w (by rw [kind_f, e])).mono fun _ _ h => ⟨h.1, h.2.out⟩
theorem slot_q (h v : Int) (w : World) (e : (if hokB h = true then hs h else -1) = v) :
    Calls Try.prog 36 #[.int .i64 h] w fun e w' => e = .returned (.int .i64 v) ∧ ∃ m, w' = w.drewN m :=
  (handle_Slot.calls h _ w (by rw [slot_f, e])).mono fun _ _ h => ⟨h.1, h.2.out⟩
theorem gen_q (h v : Int) (w : World) (e : (if hokB h = true then hg h else 0) = v) :
    Calls Try.prog 87 #[.int .i64 h] w fun e w' => e = .returned (.int .i64 v) ∧ ∃ m, w' = w.drewN m :=
  (handle_Gen.calls h _ w (by rw [gen_f, e])).mono fun _ _ h => ⟨h.1, h.2.out⟩

end Go.Proofs.Ytdilediiofenmaa

/- Of the text TS1 only what this claim needs (shake.py, this repo's). -/
set_option linter.unusedVariables false
set_option linter.unusedSimpArgs false
namespace Go.Proofs.Ytdilediiofenmaa
open Go.RowKit
set_option maxRecDepth 100000

/-- The block g holds parts of sz cells each: the first n of them are rs. -/
structure RW (W : World) (ty : TypeId) (sz g n cap : Nat) (rs : List (List Value)) : Prop where
  hp : ∃ cur : Array Value, W.heap[g]? = some (.cells cur ty (0, 0)) ∧ cur.size = cap * sz ∧ ∀ (i : Nat) (r : List Value), rs[i]? = some r → r.length = sz ∧ ∀ (j : Nat) (u : Value), r[j]? = some u → cur[i * sz + j]? = some u
  le : n ≤ cap
  mx : cap ≤ maxLen
  len : rs.length = n
section
variable {W W' : World} {ty : TypeId} {sz g n cap : Nat} {rs : List (List Value)}
theorem RW.lt (h : RW W ty sz g n cap rs) : g < W.heap.size := by
  obtain ⟨cur, h1, -⟩ := h.hp
  exact (Array.getElem?_eq_some_iff.1 h1).1
theorem RW.cell (h : RW W ty sz g n cap rs) {i j : Nat} {r : List Value} {u : Value} (hr : rs[i]? = some r) (hu : r[j]? = some u) : W.cell? ⟨g, i * sz + j, none⟩ = some u := by
  obtain ⟨cur, h1, h2, h3⟩ := h.hp
  have := (h3 i r hr).2 j u hu
  simp [World.cell?, h1, this]
theorem RW.fz (h : RW W ty sz g n cap rs) (j : Nat) : W.frozen? ⟨g, j, none⟩ = false := by
  obtain ⟨cur, h1, -⟩ := h.hp
  simp [World.frozen?, h1]
theorem RW.step (h : RW W ty sz g n cap rs) (e : W'.heap[g]? = W.heap[g]?) : RW W' ty sz g n cap rs := by
  obtain ⟨cur, h1, h2⟩ := h.hp
  exact ⟨⟨cur, e.trans h1, h2⟩, h.le, h.mx, h.len⟩
theorem RW.chg (h : RW W ty sz g n cap rs) {S : Nat → Prop} (hc : Chg S W W') (hg : ¬ S g) : RW W' ty sz g n cap rs := h.step (hc.block g h.lt hg)
theorem RW.below (h : RW W ty sz g n cap rs) (hb : Below W.heap.size W W') : RW W' ty sz g n cap rs := h.step (hb.block g h.lt)
theorem RW.ty_ne (h : RW W ty sz g n cap rs) {cs : Array Value} {ty2 : TypeId} {fr : Nat × Nat} {k : Nat} (hk : W.heap[k]? = some (.cells cs ty2 fr)) (ht : ty2 ≠ ty) : k ≠ g := by
  rintro rfl
  obtain ⟨cur, h1, -⟩ := h.hp
  rw [h1] at hk
  simp at hk
  exact ht hk.2.1.symm
theorem RW.set (h : RW W ty sz g n cap rs) {i : Nat} {r : List Value} (hr : rs[i]? = some r) (j : Nat) (hj : j < sz) (u : Value) : RW (W.setCell ⟨g, i * sz + j, none⟩ u) ty sz g n cap (rs.set i (r.set j u)) := by
  obtain ⟨cur, h1, h2, h3⟩ := h.hp
  have hi : i < rs.length := (List.getElem?_eq_some_iff.1 hr).1
  have hl := h.len
  have hle := h.le
  have hlt : i * sz + j < cur.size := by
    rw [h2]
    have : (i + 1) * sz ≤ cap * sz := Nat.mul_le_mul_right sz (by omega)
    rw [Nat.add_mul] at this
    omega
  refine ⟨⟨cur.setIfInBounds (i * sz + j) u, heap_setCell_same W g (i * sz + j) _ _ u h1, by simpa using h2, fun k q hq => ?_⟩, h.le, h.mx, by simpa using hl⟩
  rw [List.getElem?_set] at hq
  by_cases e : i = k
  · subst e
    rw [if_pos rfl, if_pos hi] at hq
    simp only [Option.some.injEq] at hq
    subst hq
    refine ⟨by rw [List.length_set]; exact (h3 i r hr).1, fun m x hx => ?_⟩
    rw [List.getElem?_set] at hx
    rw [Array.getElem?_setIfInBounds]
    by_cases e2 : j = m
    · subst e2
      have hrl := (h3 i r hr).1
      rw [if_pos rfl, if_pos (by omega)] at hx
      rw [if_pos rfl, if_pos hlt]
      exact hx
    · rw [if_neg e2] at hx
      rw [if_neg (by omega)]
      exact (h3 i r hr).2 m x hx
  · rw [if_neg e] at hq
    refine ⟨(h3 k q hq).1, fun m x hx => ?_⟩
    rw [Array.getElem?_setIfInBounds]
    have hm : m < sz := by rw [← (h3 k q hq).1]; exact (List.getElem?_eq_some_iff.1 hx).1
    rw [if_neg ?_]
    · exact (h3 k q hq).2 m x hx
    · intro e2
      rcases Nat.lt_or_gt_of_ne e with c | c
      · have : (i + 1) * sz ≤ k * sz := Nat.mul_le_mul_right sz c
        rw [Nat.add_mul] at this
        omega
      · have : (k + 1) * sz ≤ i * sz := Nat.mul_le_mul_right sz c
        rw [Nat.add_mul] at this
        omega
theorem set_set {α : Type} (l : List α) (i : Nat) (a b : α) : (l.set i a).set i b = l.set i b := by
  apply List.ext_getElem?
  intro k
  simp only [List.getElem?_set, List.length_set]
  by_cases e : i = k
  · subst e; simp
  · simp [e]
theorem RW.set2 {i : Nat} {q r : List Value} (h : RW W ty sz g n cap (rs.set i q)) (hr : rs[i]? = some r) (j : Nat) (hj : j < sz) (u : Value) : RW (W.setCell ⟨g, i * sz + j, none⟩ u) ty sz g n cap (rs.set i (q.set j u)) := by
  have hi : i < rs.length := (List.getElem?_eq_some_iff.1 hr).1
  have := h.set (i := i) (r := q) (by rw [List.getElem?_set]; simp [hi]) j hj u
  rwa [set_set] at this
end

end Go.Proofs.Ytdilediiofenmaa

/- Of the text TS2 only what this claim needs (shake.py, this repo's). -/
set_option linter.unusedVariables false
set_option linter.unusedSimpArgs false
namespace Go.Proofs.Ytdilediiofenmaa
open Go.RowKit
open Go.Proofs.YtdilediiofenmaaW.PrintWords (Kd Drawn0 Kept rd rdOf)
open Go.Proofs.Ytdilediiofenmaa.PSlackRuns
set_option maxRecDepth 100000

theorem blk8 {w2 : World} {b : Nat} {a0 a1 a2 a3 a4 a5 a6 a7 : Value} {ty : TypeId} (h : w2.heap[b]? = some (.cells #[a0, a1, a2, a3, a4, a5, a6, a7] ty (0, 0))) :
    (w2.cell? ⟨b, 0, none⟩ = some a0 ∧ w2.cell? ⟨b, 1, none⟩ = some a1 ∧ w2.cell? ⟨b, 2, none⟩ = some a2 ∧ w2.cell? ⟨b, 3, none⟩ = some a3 ∧ w2.cell? ⟨b, 4, none⟩ = some a4 ∧ w2.cell? ⟨b, 5, none⟩ = some a5 ∧ w2.cell? ⟨b, 6, none⟩ = some a6 ∧ w2.cell? ⟨b, 7, none⟩ = some a7) ∧
    (w2.frozen? ⟨b, 0, none⟩ = false ∧ w2.frozen? ⟨b, 1, none⟩ = false ∧ w2.frozen? ⟨b, 2, none⟩ = false ∧ w2.frozen? ⟨b, 3, none⟩ = false ∧ w2.frozen? ⟨b, 4, none⟩ = false ∧ w2.frozen? ⟨b, 5, none⟩ = false ∧ w2.frozen? ⟨b, 6, none⟩ = false ∧ w2.frozen? ⟨b, 7, none⟩ = false) := by
  refine ⟨⟨?_, ?_, ?_, ?_, ?_, ?_, ?_, ?_⟩, ?_, ?_, ?_, ?_, ?_, ?_, ?_, ?_⟩ <;> simp [World.cell?, World.frozen?, h]
/-- A task's jobs in a row of its own, made by the program. -/
def JR (W : World) (v : Value) (js : List Jb) : Prop := kJ.R 32 W 0 (fun _ => True) v js
theorem JR.tr {W : World} {v : Value} {js : List Jb} (h : JR W v js) : TR W v js := TR.of_R h
theorem JR.of_R {W : World} {v : Value} {js : List Jb} {b : Nat} {ok : Nat → Prop} (h : kJ.R 32 W b ok v js) : JR W v js := Kd.R_mono (Kd.R_lower h (Nat.zero_le _)) (fun _ _ => trivial)
theorem JR.nil (W : World) : JR W (.slice none 0 0) [] := Kd.R_nil _ _ _ _ _
theorem JR.below {W W' : World} {v : Value} {js : List Jb} (h : JR W v js) (hb : Below W.heap.size W W') : JR W' v js := Kd.R_below h hb
/-- What is not made of jobs may turn. -/
theorem JR.chg {W W' : World} {v : Value} {js : List Jb} (h : JR W v js) {S : Nat → Prop} (hc : Chg S W W') (hS : ∀ (k : Nat) (cs : Array Value) (fr : Nat × Nat), W.heap[k]? = some (.cells cs 32 fr) → ¬ S k) : JR W' v js := by
  refine Kd.R_mono (Kd.R_step (Kd.R_bound h) (fun k hk hlt => ?_)) (fun _ _ => trivial)
  obtain ⟨-, -, -, q, hq, cells, hcs⟩ := hk
  have : q = 32 := by
    have e : (32 :: kJ.E) = [32] := rfl
    rw [e] at hq
    simpa using hq
  subst this
  exact hc.block k hlt (hS k cells _ hcs)
theorem JR.slice {W : World} {v : Value} {js : List Jb} (h : JR W v js) : ∃ A c, v = .slice A js.length c := Kd.R_slice h

/-- A slot: its generation, whether it is taken, the task there, its row of jobs. -/
structure Sk where
  f0 : Int
  f1 : Bool
  v : Value
  T : Tk
abbrev Sk.cs (x : Sk) : List Value := [.int .i64 x.f0, .bool x.f1, .int .i64 x.T.p, x.v, .int .i64 x.T.g, .int .i64 x.T.o, .int .i64 x.T.l, .int .i64 x.T.d, .int .i64 x.T.c, .int .i64 x.T.t]
/-- A free slot. -/
abbrev noSk (g : Int) : Sk := ⟨g, false, .slice none 0 0, zT⟩

/-- A table: its block t, its slots' block g. -/
structure TT (w : World) (t g n cap : Nat) (kind : Int) (xs : List Sk) : Prop where
  blk : w.heap[t]? = some (.cells #[.int .i64 kind, .slice (some ⟨g, 0, none⟩) n cap] 117 (0, 0))
  row : RW w 119 10 g n cap (xs.map Sk.cs)
  jr : ∀ (i : Nat) (x : Sk), xs[i]? = some x → JR w x.v x.T.js

/-- What a table may be: its kind, its slots. -/
structure TM (kind : Int) (n : Nat) (xs : List Sk) : Prop where
  k0 : 1 ≤ kind
  k3 : kind ≤ 3
  n0 : 1 ≤ n
  n1 : n ≤ 4096
  len : xs.length = n
  gen : ∀ (i : Nat) (x : Sk), xs[i]? = some x → 1 ≤ x.f0 ∧ x.f0 ≤ 1024
  top : ∀ (i : Nat) (x : Sk), xs[i]? = some x → x.f1 = true → x.f0 ≤ 1023
  js : ∀ (i : Nat) (x : Sk), xs[i]? = some x → x.T.js.length ≤ 9223372036854775800

section
variable {w w' : World} {t g n cap : Nat} {kind : Int} {xs : List Sk}
theorem TT.c0 (h : TT w t g n cap kind xs) : w.cell? ⟨t, 0, none⟩ = some (.int .i64 kind) := by simp [World.cell?, h.blk]
theorem TT.c1 (h : TT w t g n cap kind xs) : w.cell? ⟨t, 1, none⟩ = some (.slice (some ⟨g, 0, none⟩) n cap) := by simp [World.cell?, h.blk]
theorem TT.lt (h : TT w t g n cap kind xs) : t < w.heap.size := (Array.getElem?_eq_some_iff.1 h.blk).1
theorem TT.ltg (h : TT w t g n cap kind xs) : g < w.heap.size := h.row.lt
theorem TT.len (h : TT w t g n cap kind xs) : xs.length = n := by simpa using h.row.len
theorem TT.le (h : TT w t g n cap kind xs) : n ≤ cap := h.row.le
theorem TT.ne (h : TT w t g n cap kind xs) : t ≠ g := h.row.ty_ne h.blk (by decide)
theorem TT.r (h : TT w t g n cap kind xs) {i : Nat} {x : Sk} (hx : xs[i]? = some x) : (xs.map Sk.cs)[i]? = some x.cs := by rw [List.getElem?_map, hx]; rfl
theorem TT.e0 (h : TT w t g n cap kind xs) {i : Nat} {x : Sk} (hx : xs[i]? = some x) : w.cell? ⟨g, i * 10, none⟩ = some (.int .i64 x.f0) := h.row.cell (j := 0) (h.r hx) rfl
theorem TT.e1 (h : TT w t g n cap kind xs) {i : Nat} {x : Sk} (hx : xs[i]? = some x) : w.cell? ⟨g, i * 10 + 1, none⟩ = some (.bool x.f1) := h.row.cell (j := 1) (h.r hx) rfl
theorem TT.e8 (h : TT w t g n cap kind xs) {i : Nat} {x : Sk} (hx : xs[i]? = some x) :
    w.cell? ⟨g, i * 10 + 2, none⟩ = some (.int .i64 x.T.p) ∧ w.cell? ⟨g, i * 10 + 3, none⟩ = some x.v ∧ w.cell? ⟨g, i * 10 + 4, none⟩ = some (.int .i64 x.T.g) ∧ w.cell? ⟨g, i * 10 + 5, none⟩ = some (.int .i64 x.T.o) ∧ w.cell? ⟨g, i * 10 + 6, none⟩ = some (.int .i64 x.T.l) ∧ w.cell? ⟨g, i * 10 + 7, none⟩ = some (.int .i64 x.T.d) ∧ w.cell? ⟨g, i * 10 + 8, none⟩ = some (.int .i64 x.T.c) ∧ w.cell? ⟨g, i * 10 + 9, none⟩ = some (.int .i64 x.T.t) :=
  ⟨h.row.cell (j := 2) (h.r hx) rfl, h.row.cell (j := 3) (h.r hx) rfl, h.row.cell (j := 4) (h.r hx) rfl, h.row.cell (j := 5) (h.r hx) rfl, h.row.cell (j := 6) (h.r hx) rfl, h.row.cell (j := 7) (h.r hx) rfl, h.row.cell (j := 8) (h.r hx) rfl, h.row.cell (j := 9) (h.r hx) rfl⟩
theorem TT.fz (h : TT w t g n cap kind xs) (j : Nat) : w.frozen? ⟨g, j, none⟩ = false := h.row.fz j
theorem TT.f10 (h : TT w t g n cap kind xs) (i : Nat) : w.frozen? ⟨g, i * 10, none⟩ = false ∧ w.frozen? ⟨g, i * 10 + 1, none⟩ = false ∧ w.frozen? ⟨g, i * 10 + 2, none⟩ = false ∧ w.frozen? ⟨g, i * 10 + 3, none⟩ = false ∧ w.frozen? ⟨g, i * 10 + 4, none⟩ = false ∧ w.frozen? ⟨g, i * 10 + 5, none⟩ = false ∧ w.frozen? ⟨g, i * 10 + 6, none⟩ = false ∧ w.frozen? ⟨g, i * 10 + 7, none⟩ = false ∧ w.frozen? ⟨g, i * 10 + 8, none⟩ = false ∧ w.frozen? ⟨g, i * 10 + 9, none⟩ = false :=
  ⟨h.fz _, h.fz _, h.fz _, h.fz _, h.fz _, h.fz _, h.fz _, h.fz _, h.fz _, h.fz _⟩
theorem TT.job_ne (h : TT w t g n cap kind xs) (k : Nat) (cs : Array Value) (fr : Nat × Nat) (hk : w.heap[k]? = some (.cells cs 32 fr)) : k ≠ g := h.row.ty_ne hk (by decide)
theorem TT.chg (h : TT w t g n cap kind xs) {S : Nat → Prop} (hc : Chg S w w') (h1 : ¬ S t) (h2 : ¬ S g) (hS : ∀ (k : Nat) (cs : Array Value) (fr : Nat × Nat), w.heap[k]? = some (.cells cs 32 fr) → ¬ S k) : TT w' t g n cap kind xs :=
  ⟨hc.heap h.blk h1, h.row.chg hc h2, fun i x hx => (h.jr i x hx).chg hc hS⟩
theorem TT.below (h : TT w t g n cap kind xs) (hb : Below w.heap.size w w') : TT w' t g n cap kind xs :=
  h.chg (Chg.ofBelow hb (fun _ => False)) (fun f => f) (fun f => f) (fun _ _ _ _ f => f)
theorem TT.drewN (h : TT w t g n cap kind xs) (m : Nat) : TT (w.drewN m) t g n cap kind xs := h.below (below_drewN' (Below.refl _ w) m)
theorem TT.drew (h : TT w t g n cap kind xs) : TT w.drew t g n cap kind xs := h.drewN 1
/-- A slot's cells are written anew, jobs and all else stays. -/
theorem TT.put (h : TT w t g n cap kind xs) {i : Nat} {x : Sk} (hx : xs[i]? = some x) (y : Sk) (hc : Chg (fun k => k = g) w w') (hr : RW w' 119 10 g n cap ((xs.map Sk.cs).set i y.cs)) (hj : JR w y.v y.T.js) : TT w' t g n cap kind (xs.set i y) := by
  have hS : ∀ (k : Nat) (cs : Array Value) (fr : Nat × Nat), w.heap[k]? = some (.cells cs 32 fr) → ¬ k = g := fun k cs fr hk => h.job_ne k cs fr hk
  refine ⟨hc.heap h.blk (fun e => h.ne e), by rw [List.map_set]; exact hr, fun k z hz => ?_⟩
  rw [List.getElem?_set] at hz
  split at hz
  · split at hz
    · simp only [Option.some.injEq] at hz
      subst hz
      exact hj.chg hc hS
    · simp at hz
  · exact (h.jr k z hz).chg hc hS
end
theorem chg8 {w : World} {g o : Nat} (u0 u1 u2 u3 u4 u5 u6 u7 : Value) {W : World} (h : Chg (fun k => k = g) w W) :
    Chg (fun k => k = g) w ((((((((W.setCell ⟨g, o + 2, none⟩ u0).setCell ⟨g, o + 3, none⟩ u1).setCell ⟨g, o + 4, none⟩ u2).setCell ⟨g, o + 5, none⟩ u3).setCell ⟨g, o + 6, none⟩ u4).setCell ⟨g, o + 7, none⟩ u5).setCell ⟨g, o + 8, none⟩ u6).setCell ⟨g, o + 9, none⟩ u7) :=
  (((((((h.setCell ⟨g, o + 2, none⟩ u0 rfl).setCell ⟨g, o + 3, none⟩ u1 rfl).setCell ⟨g, o + 4, none⟩ u2 rfl).setCell ⟨g, o + 5, none⟩ u3 rfl).setCell ⟨g, o + 6, none⟩ u4 rfl).setCell ⟨g, o + 7, none⟩ u5 rfl).setCell ⟨g, o + 8, none⟩ u6 rfl).setCell ⟨g, o + 9, none⟩ u7 rfl
section
variable {W : World} {g n cap i : Nat} {rs : List (List Value)} {ty : TypeId}
theorem RW.put8 {a b c0 c1 c2 c3 c4 c5 c6 c7 : Value} {q : List Value} (h : RW W ty 10 g n cap (rs.set i [a, b, c0, c1, c2, c3, c4, c5, c6, c7])) (hr : rs[i]? = some q) (u0 u1 u2 u3 u4 u5 u6 u7 : Value) :
    RW ((((((((W.setCell ⟨g, i * 10 + 2, none⟩ u0).setCell ⟨g, i * 10 + 3, none⟩ u1).setCell ⟨g, i * 10 + 4, none⟩ u2).setCell ⟨g, i * 10 + 5, none⟩ u3).setCell ⟨g, i * 10 + 6, none⟩ u4).setCell ⟨g, i * 10 + 7, none⟩ u5).setCell ⟨g, i * 10 + 8, none⟩ u6).setCell ⟨g, i * 10 + 9, none⟩ u7) ty 10 g n cap (rs.set i [a, b, u0, u1, u2, u3, u4, u5, u6, u7]) :=
  (((((((h.set2 hr 2 (by omega) u0).set2 hr 3 (by omega) u1).set2 hr 4 (by omega) u2).set2 hr 5 (by omega) u3).set2 hr 6 (by omega) u4).set2 hr 7 (by omega) u5).set2 hr 8 (by omega) u6).set2 hr 9 (by omega) u7
theorem RW.self {q : List Value} (h : RW W ty 10 g n cap rs) (hr : rs[i]? = some q) : RW W ty 10 g n cap (rs.set i q) := by
  have e : rs.set i q = rs := by
    apply List.ext_getElem?
    intro k
    rw [List.getElem?_set]
    split
    · next e => subst e; rw [hr]; simp [(List.getElem?_eq_some_iff.1 hr).1]
    · rfl
  rw [e]; exact h
end
/-- The table behind a Set: eight stores. -/
theorem TT.set8 {w W : World} {t g n cap : Nat} {kind : Int} {xs : List Sk} (h : TT w t g n cap kind xs) {i : Nat} {x : Sk} (hx : xs[i]? = some x) (v : Value) (T : Tk) (hj : JR w v T.js)
    (hW : W = ((((((((w.setCell ⟨g, i * 10 + 2, none⟩ (.int .i64 T.p)).setCell ⟨g, i * 10 + 3, none⟩ v).setCell ⟨g, i * 10 + 4, none⟩ (.int .i64 T.g)).setCell ⟨g, i * 10 + 5, none⟩ (.int .i64 T.o)).setCell ⟨g, i * 10 + 6, none⟩ (.int .i64 T.l)).setCell ⟨g, i * 10 + 7, none⟩ (.int .i64 T.d)).setCell ⟨g, i * 10 + 8, none⟩ (.int .i64 T.c)).setCell ⟨g, i * 10 + 9, none⟩ (.int .i64 T.t))) :
    TT W t g n cap kind (xs.set i ⟨x.f0, x.f1, v, T⟩) ∧ Chg (fun k => k = g) w W := by
  subst hW
  have hc := chg8 (g := g) (o := i * 10) (.int .i64 T.p) v (.int .i64 T.g) (.int .i64 T.o) (.int .i64 T.l) (.int .i64 T.d) (.int .i64 T.c) (.int .i64 T.t) (Chg.refl (fun k => k = g) w)
  exact ⟨h.put hx ⟨x.f0, x.f1, v, T⟩ hc ((h.row.self (h.r hx)).put8 (h.r hx) _ _ _ _ _ _ _ _) hj, hc⟩
/-- The table behind an Add: nine stores. -/
theorem TT.set9 {w W : World} {t g n cap : Nat} {kind : Int} {xs : List Sk} (h : TT w t g n cap kind xs) {i : Nat} {x : Sk} (hx : xs[i]? = some x) (b : Bool) (v : Value) (T : Tk) (hj : JR w v T.js)
    (hW : W = (((((((((w.setCell ⟨g, i * 10 + 1, none⟩ (.bool b)).setCell ⟨g, i * 10 + 2, none⟩ (.int .i64 T.p)).setCell ⟨g, i * 10 + 3, none⟩ v).setCell ⟨g, i * 10 + 4, none⟩ (.int .i64 T.g)).setCell ⟨g, i * 10 + 5, none⟩ (.int .i64 T.o)).setCell ⟨g, i * 10 + 6, none⟩ (.int .i64 T.l)).setCell ⟨g, i * 10 + 7, none⟩ (.int .i64 T.d)).setCell ⟨g, i * 10 + 8, none⟩ (.int .i64 T.c)).setCell ⟨g, i * 10 + 9, none⟩ (.int .i64 T.t))) :
    TT W t g n cap kind (xs.set i ⟨x.f0, b, v, T⟩) ∧ Chg (fun k => k = g) w W := by
  subst hW
  have hc := chg8 (g := g) (o := i * 10) (.int .i64 T.p) v (.int .i64 T.g) (.int .i64 T.o) (.int .i64 T.l) (.int .i64 T.d) (.int .i64 T.c) (.int .i64 T.t) ((Chg.refl (fun k => k = g) w).setCell ⟨g, i * 10 + 1, none⟩ (.bool b) rfl)
  exact ⟨h.put hx ⟨x.f0, b, v, T⟩ hc (((h.row.self (h.r hx)).set2 (h.r hx) 1 (by omega) (.bool b)).put8 (h.r hx) _ _ _ _ _ _ _ _) hj, hc⟩
theorem TM.set {kind : Int} {n : Nat} {xs : List Sk} (h : TM kind n xs) (i : Nat) (x : Sk) (h0 : 1 ≤ x.f0) (h1 : x.f0 ≤ 1024) (h2 : x.f1 = true → x.f0 ≤ 1023) (h3 : x.T.js.length ≤ 9223372036854775800) : TM kind n (xs.set i x) := by
  have hs : ∀ (j : Nat) (y : Sk), (xs.set i x)[j]? = some y → y = x ∨ xs[j]? = some y := by
    intro j y hy
    rw [List.getElem?_set] at hy
    split at hy
    · split at hy
      · exact .inl (by simpa using hy.symm)
      · simp at hy
    · exact .inr hy
  refine ⟨h.k0, h.k3, h.n0, h.n1, by simpa using h.len, ?_, ?_, ?_⟩
  · intro j y hy
    rcases hs j y hy with rfl | hy
    · exact ⟨h0, h1⟩
    · exact h.gen j y hy
  · intro j y hy hf
    rcases hs j y hy with rfl | hy
    · exact h2 hf
    · exact h.top j y hy hf
  · intro j y hy
    rcases hs j y hy with rfl | hy
    · exact h3
    · exact h.js j y hy

theorem tname_q (t g n cap i : Nat) (kind : Int) (xs : List Sk) (x : Sk) (w : World) (h : TT w t g n cap kind xs) (hT : TM kind n xs) (hx : xs[i]? = some x) (hle : x.f0 ≤ 1023) :
    Calls Try.prog 60 #[.pointer (some ⟨t, 0, none⟩), .int .i64 (i : Int)] w fun e w' => e = .returned (.int .i64 (mk kind i x.f0)) ∧ ∃ m, w' = w.drewN m := by
  have c0 := h.c0
  have c1 := h.c1
  have e0 := h.e0 hx
  have hi : i < n := by have := (List.getElem?_eq_some_iff.1 hx).1; have := h.len; omega
  have hn := hT.n1
  have M := fun w => make_q kind (i : Int) x.f0 w hT.k0 hT.k3 (by omega) (by omega) (hT.gen i x hx).1 hle
  have HM := Lib.hid M
  clear M h hT hx hle
  go_enter Try.func60, Try.ntmps60
  go_wp2_with (go_quiet ((go_at_call 81; exact Calls.quiet_of (HM.out _))))
  go_ret
  exact ⟨rfl, _, rfl⟩

end Go.Proofs.Ytdilediiofenmaa

/- Of the text TS3 only what this claim needs (shake.py, this repo's). -/
set_option linter.unusedVariables false
set_option linter.unusedSimpArgs false
namespace Go.Proofs.Ytdilediiofenmaa
open Go.RowKit
open Go.Proofs.YtdilediiofenmaaW.PrintWords (Kd Drawn0 Kept rd rdOf)
open Go.Proofs.Ytdilediiofenmaa.PSlackRuns
set_option maxRecDepth 100000

theorem tfind_kind (t g n cap : Nat) (kind h v : Int) (xs : List Sk) (w : World) (H : TT w t g n cap kind xs) (hv : (if hokB h = true then hk h else 0) = v) (hne : (v == kind) = false) :
    Calls Try.prog 65 #[.pointer (some ⟨t, 0, none⟩), .int .i64 h] w fun e w' => e = .returned (.tuple #[.pointer none, .iface 82 (.int .i64 20)]) ∧ ∃ m, w' = w.drewN m := by
  have c0 := H.c0
  have K := fun w => kind_q h v w hv
  have HK := Lib.hid K
  clear K H hv
  go_enter Try.func65, Try.ntmps65
  go_wp2_with (go_quiet ((go_at_call 86; exact Calls.quiet_of (HK.out _))))
  go_ret2
  exact ⟨rfl, _, rfl⟩

theorem tfind_far (t g n cap i : Nat) (kind h : Int) (xs : List Sk) (w : World) (H : TT w t g n cap kind xs) (hv : (if hokB h = true then hk h else 0) = kind) (hi : (if hokB h = true then hs h else -1) = (i : Int)) (hfar : n ≤ i) :
    Calls Try.prog 65 #[.pointer (some ⟨t, 0, none⟩), .int .i64 h] w fun e w' => e = .returned (.tuple #[.pointer none, .iface 82 (.int .i64 20)]) ∧ ∃ m, w' = w.drewN m := by
  have c0 := H.c0
  have c1 := H.c1
  have K := fun w => kind_q h kind w hv
  have HK := Lib.hid K
  have S := fun w => slot_q h i w hi
  have HS := Lib.hid S
  have t0 : decide ((i : Int) < 0) = false := decide_eq_false (by omega)
  have t1 : decide (n ≤ i) = true := by simpa using hfar
  clear K S H hv hi hfar
  go_enter Try.func65, Try.ntmps65
  go_wp2_with (go_quiet ((first | (go_at_call 86; exact Calls.quiet_of (HK.out _)))))
  go_wp2_with ((go_at_call 36; refine (HS.out _).mono ?_; rintro e w' ⟨rfl, m, rfl⟩))
  go_wp2_with (go_quiet (fail))
  go_ret2
  exact ⟨rfl, _, rfl⟩

theorem tfind_free (t g n cap i : Nat) (kind h gen : Int) (v0 : Value) (T0 : Tk) (xs : List Sk) (w : World) (H : TT w t g n cap kind xs) (hv : (if hokB h = true then hk h else 0) = kind) (hi : (if hokB h = true then hs h else -1) = (i : Int)) (hx : xs[i]? = some ⟨gen, false, v0, T0⟩) :
    Calls Try.prog 65 #[.pointer (some ⟨t, 0, none⟩), .int .i64 h] w fun e w' => e = .returned (.tuple #[.pointer none, .iface 82 (.int .i64 20)]) ∧ ∃ m, w' = w.drewN m := by
  have c0 := H.c0
  have c1 := H.c1
  have hin : i < n := by have := (List.getElem?_eq_some_iff.1 hx).1; have := H.len; omega
  have K := fun w => kind_q h kind w hv
  have HK := Lib.hid K
  have S := fun w => slot_q h i w hi
  have HS := Lib.hid S
  have e1 : w.cell? ⟨g, i * 10 + 1, none⟩ = some (.bool false) := H.e1 hx
  have t0 : decide ((i : Int) < 0) = false := decide_eq_false (by omega)
  have t1 : decide (n ≤ i) = false := decide_eq_false (by omega)
  clear K S H hv hi hx
  go_enter Try.func65, Try.ntmps65
  go_wp2_with (go_quiet ((first | (go_at_call 86; exact Calls.quiet_of (HK.out _)))))
  go_wp2_with ((go_at_call 36; refine (HS.out _).mono ?_; rintro e w' ⟨rfl, m, rfl⟩))
  go_wp2_with (go_quiet (fail))
  go_ret2
  exact ⟨rfl, _, rfl⟩

theorem tfind_gen (t g n cap i : Nat) (kind h gen : Int) (v0 : Value) (T0 : Tk) (v : Int) (xs : List Sk) (w : World) (H : TT w t g n cap kind xs) (hv : (if hokB h = true then hk h else 0) = kind) (hi : (if hokB h = true then hs h else -1) = (i : Int)) (hgg : (if hokB h = true then hg h else 0) = v) (hx : xs[i]? = some ⟨gen, true, v0, T0⟩) (hne : (gen == v) = false) :
    Calls Try.prog 65 #[.pointer (some ⟨t, 0, none⟩), .int .i64 h] w fun e w' => e = .returned (.tuple #[.pointer none, .iface 82 (.int .i64 20)]) ∧ ∃ m, w' = w.drewN m := by
  have c0 := H.c0
  have c1 := H.c1
  have hin : i < n := by have := (List.getElem?_eq_some_iff.1 hx).1; have := H.len; omega
  have K := fun w => kind_q h kind w hv
  have HK := Lib.hid K
  have S := fun w => slot_q h i w hi
  have HS := Lib.hid S
  have G := fun w => gen_q h v w hgg
  have HG := Lib.hid G
  have e1 : w.cell? ⟨g, i * 10 + 1, none⟩ = some (.bool true) := H.e1 hx
  have e0 : w.cell? ⟨g, i * 10, none⟩ = some (.int .i64 gen) := H.e0 hx
  have t0 : decide ((i : Int) < 0) = false := decide_eq_false (by omega)
  have t1 : decide (n ≤ i) = false := decide_eq_false (by omega)
  clear K S G H hv hi hgg hx
  go_enter Try.func65, Try.ntmps65
  go_wp2_with (go_quiet ((first | (go_at_call 86; exact Calls.quiet_of (HK.out _)))))
  go_wp2_with fail
  refine (HS.out _).mono ?_
  rintro e w' ⟨rfl, m, hw⟩
  have HW := Lib.hid (show ∃ m, w' = w.drewN m from ⟨_, by rw [hw, World.drewN_drewN]⟩)
  have c1' : w'.cell? ⟨t, 1, none⟩ = some (.slice (some ⟨g, 0, none⟩) n cap) := by rw [hw]; exact c1
  have e1' : w'.cell? ⟨g, i * 10 + 1, none⟩ = some (.bool true) := by rw [hw]; exact e1
  have e0' : w'.cell? ⟨g, i * 10, none⟩ = some (.int .i64 gen) := by rw [hw]; exact e0
  clear hw c0 c1 e1 e0
  go_wp2_with (go_quiet ((go_at_call 87; exact Calls.quiet_of (HG.out _))))
  go_ret2
  obtain ⟨m', rfl⟩ := HW.out
  exact ⟨rfl, _, World.drewN_drewN ..⟩

theorem tfind_got (t g n cap i : Nat) (kind h gen : Int) (v0 : Value) (T0 : Tk) (xs : List Sk) (w : World) (H : TT w t g n cap kind xs) (hv : (if hokB h = true then hk h else 0) = kind) (hi : (if hokB h = true then hs h else -1) = (i : Int)) (hgg : (if hokB h = true then hg h else 0) = gen) (hx : xs[i]? = some ⟨gen, true, v0, T0⟩) :
    Calls Try.prog 65 #[.pointer (some ⟨t, 0, none⟩), .int .i64 h] w fun e w' => e = .returned (.tuple #[.pointer (some ⟨g, i * 10, none⟩), .nilIface]) ∧ ∃ m, w' = w.drewN m := by
  have c0 := H.c0
  have c1 := H.c1
  have hin : i < n := by have := (List.getElem?_eq_some_iff.1 hx).1; have := H.len; omega
  have K := fun w => kind_q h kind w hv
  have HK := Lib.hid K
  have S := fun w => slot_q h i w hi
  have HS := Lib.hid S
  have G := fun w => gen_q h gen w hgg
  have HG := Lib.hid G
  have e1 : w.cell? ⟨g, i * 10 + 1, none⟩ = some (.bool true) := H.e1 hx
  have e0 : w.cell? ⟨g, i * 10, none⟩ = some (.int .i64 gen) := H.e0 hx
  have t0 : decide ((i : Int) < 0) = false := decide_eq_false (by omega)
  have t1 : decide (n ≤ i) = false := decide_eq_false (by omega)
  clear K S G H hv hi hgg hx
  go_enter Try.func65, Try.ntmps65
  go_wp2_with (go_quiet ((first | (go_at_call 86; exact Calls.quiet_of (HK.out _)))))
  go_wp2_with fail
  refine (HS.out _).mono ?_
  rintro e w' ⟨rfl, m, hw⟩
  have HW := Lib.hid (show ∃ m, w' = w.drewN m from ⟨_, by rw [hw, World.drewN_drewN]⟩)
  have c1' : w'.cell? ⟨t, 1, none⟩ = some (.slice (some ⟨g, 0, none⟩) n cap) := by rw [hw]; exact c1
  have e1' : w'.cell? ⟨g, i * 10 + 1, none⟩ = some (.bool true) := by rw [hw]; exact e1
  have e0' : w'.cell? ⟨g, i * 10, none⟩ = some (.int .i64 gen) := by rw [hw]; exact e0
  clear hw c0 c1 e1 e0
  go_wp2_with (go_quiet ((go_at_call 87; exact Calls.quiet_of (HG.out _))))
  go_ret2
  obtain ⟨m', rfl⟩ := HW.out
  exact ⟨rfl, _, World.drewN_drewN ..⟩

/-- The slot i bears the handle h. -/
def SAt (kind h : Int) (xs : List Sk) (i : Nat) (x : Sk) : Prop := xs[i]? = some x ∧ x.f1 = true ∧ mk kind i x.f0 = h
def SNo (kind h : Int) (xs : List Sk) : Prop := ∀ (i : Nat) (x : Sk), ¬ SAt kind h xs i x

theorem tfind_hit (t g n cap i : Nat) (kind h : Int) (xs : List Sk) (x : Sk) (w : World) (H : TT w t g n cap kind xs) (hT : TM kind n xs) (ha : SAt kind h xs i x) :
    Calls Try.prog 65 #[.pointer (some ⟨t, 0, none⟩), .int .i64 h] w fun e w' => e = .returned (.tuple #[.pointer (some ⟨g, i * 10, none⟩), .nilIface]) ∧ ∃ m, w' = w.drewN m := by
  obtain ⟨hx, hf, he⟩ := ha
  have hi := (List.getElem?_eq_some_iff.1 hx).1
  have hl := H.len
  have hn := hT.n1
  have g1 := hT.gen i x hx
  have g2 := hT.top i x hx hf
  have p := hk_mk kind (i : Int) x.f0 (by omega) (by omega) (by omega) (by omega)
  rw [he] at p
  have ok : hokB h = true := by
    unfold hokB
    rw [p.1, p.2.1, p.2.2]
    have := hT.k0; have := hT.k3
    exact decide_eq_true (by omega)
  obtain ⟨gen, tk, v0, T0⟩ := x
  obtain rfl : tk = true := hf
  exact tfind_got t g n cap i kind h gen v0 T0 xs w H (by rw [if_pos ok, p.1]) (by rw [if_pos ok, p.2.1]) (by rw [if_pos ok, p.2.2]) hx

theorem tfind_miss (t g n cap : Nat) (kind h : Int) (xs : List Sk) (w : World) (H : TT w t g n cap kind xs) (hT : TM kind n xs) (hno : SNo kind h xs) :
    Calls Try.prog 65 #[.pointer (some ⟨t, 0, none⟩), .int .i64 h] w fun e w' => e = .returned (.tuple #[.pointer none, .iface 82 (.int .i64 20)]) ∧ ∃ m, w' = w.drewN m := by
  have k0 := hT.k0
  have hl := H.len
  by_cases ok : hokB h = true ∧ hk h = kind
  · obtain ⟨ok, hkk⟩ := ok
    have r := hs_range h
    obtain ⟨i, hi⟩ : ∃ i : Nat, hs h = (i : Int) := ⟨(hs h).toNat, by omega⟩
    have hv : (if hokB h = true then hk h else 0) = kind := by rw [if_pos ok, hkk]
    have hs' : (if hokB h = true then hs h else -1) = (i : Int) := by rw [if_pos ok, hi]
    by_cases far : n ≤ i
    · exact tfind_far t g n cap i kind h xs w H hv hs' far
    · obtain ⟨⟨gen, tk, v0, T0⟩, hx⟩ : ∃ x, xs[i]? = some x := ⟨xs[i], List.getElem?_eq_getElem (by omega)⟩
      cases tk with
      | false => exact tfind_free t g n cap i kind h gen v0 T0 xs w H hv hs' hx
      | true =>
        refine tfind_gen t g n cap i kind h gen v0 T0 (hg h) xs w H hv hs' (by rw [if_pos ok]) hx ?_
        have := hno i ⟨gen, true, v0, T0⟩
        unfold SAt at this
        by_cases e : gen = hg h
        · exfalso
          refine this ⟨hx, rfl, ?_⟩
          show mk kind i gen = h
          rw [e, ← hi, ← hkk, mk_parts]
        · simpa using e
  · refine tfind_kind t g n cap kind h _ xs w H rfl ?_
    by_cases o : hokB h = true
    · rw [if_pos o]
      have : hk h ≠ kind := fun e => ok ⟨o, e⟩
      simpa using this
    · rw [if_neg o]
      simp; omega

theorem tget_hit (t g n cap i : Nat) (kind h : Int) (xs : List Sk) (x : Sk) (w : World) (H : TT w t g n cap kind xs) (hT : TM kind n xs) (ha : SAt kind h xs i x) :
    Calls Try.prog 34 #[.pointer (some ⟨t, 0, none⟩), .int .i64 h] w fun e w' => e = .returned (.tuple #[x.T.v x.v, .nilIface]) ∧ Below w.heap.size w w' := by
  have hb0 := (Below.refl w.heap.size w).alloc (Nat.le_refl _) (.cells #[.int .i64 0, .slice none 0 0, .int .i64 0, .int .i64 0, .int .i64 0, .int .i64 0, .int .i64 0, .int .i64 0] 56)
  obtain ⟨B, d, hv⟩ := (H.jr i x ha.1).slice
  have F := Lib.hid (tfind_hit t g n cap i kind h xs x _ (H.below hb0) hT ha)
  obtain ⟨e2, e3, e4, e5, e6, e7, e8, e9⟩ := (H.below hb0).e8 ha.1
  have hbl := H.ltg
  rw [hv] at e3 ⊢
  have HB0 := Lib.hid hb0
  clear H hT ha hb0 hv
  go_enter Try.func34, Try.ntmps34
  go_wp2_with fail
  refine F.out.mono ?_
  rintro e w' ⟨rfl, m, hw⟩
  subst hw
  go_wp2
  have HB := below_set8 (below_drewN' HB0.out m) (Nat.le_refl w.heap.size) (.int .i64 x.T.p) (.slice B x.T.js.length d) (.int .i64 x.T.g) (.int .i64 x.T.o) (.int .i64 x.T.l) (.int .i64 x.T.d) (.int .i64 x.T.c) (.int .i64 x.T.t)
  refine bodyPost_ret (v := .tuple #[x.T.v (.slice B x.T.js.length d), .nilIface]) (by simp [results, Try.f34, go_sem]) rfl ⟨rfl, HB⟩

set_option maxHeartbeats 1000000 in
theorem tset_hit (t g n cap i : Nat) (kind h : Int) (v : Value) (T : Tk) (xs : List Sk) (x : Sk) (w : World) (H : TT w t g n cap kind xs) (hT : TM kind n xs) (ha : SAt kind h xs i x) (hj : JR w v T.js) :
    Calls Try.prog 33 #[.pointer (some ⟨t, 0, none⟩), .int .i64 h, T.v v] w fun e w' => e = .returned .nilIface ∧ TT w' t g n cap kind (xs.set i ⟨x.f0, x.f1, v, T⟩) ∧ Chg (fun k => k = g) w w' := by
  obtain ⟨A, c, rfl⟩ := hj.slice
  have hb0 := (Below.refl w.heap.size w).alloc (Nat.le_refl _) (.cells #[.int .i64 T.p, (.slice A T.js.length c), .int .i64 T.g, .int .i64 T.o, .int .i64 T.l, .int .i64 T.d, .int .i64 T.c, .int .i64 T.t] 56)
  have H0 := H.below hb0
  have F := Lib.hid (tfind_hit t g n cap i kind h xs x _ H0 hT ha)
  obtain ⟨e2, e3, e4, e5, e6, e7, e8, e9⟩ := H0.e8 ha.1
  obtain ⟨f0, f1, f2, f3, f4, f5, f6, f7, f8, f9⟩ := H0.f10 i
  obtain ⟨B, d, hv⟩ := (H.jr i x ha.1).slice
  rw [hv] at e3
  have HH := Lib.hid H0
  have HB0 := Lib.hid hb0
  have HA := Lib.hid ha
  have HJ := Lib.hid (hj.below hb0)
  have hgl := H.ltg
  clear H H0 hT ha hj hv hb0
  go_enter Try.func33, Try.ntmps33
  go_wp2_with fail
  refine F.out.mono ?_
  rintro e w' ⟨rfl, m, hw⟩
  subst hw
  go_wp2
  go_ret
  have r := (HH.out.drewN m).set8 HA.out.1 (.slice A T.js.length c) T (HJ.out.below (below_drewN' (Below.refl _ _) m)) rfl
  exact ⟨rfl, r.1, (((Chg.refl _ w).alloc _).drewN m).trans r.2⟩

theorem tdrop_miss (t g n cap : Nat) (kind h : Int) (xs : List Sk) (w : World) (H : TT w t g n cap kind xs) (hT : TM kind n xs) (ha : SNo kind h xs) :
    Calls Try.prog 51 #[.pointer (some ⟨t, 0, none⟩), .int .i64 h] w fun e w' => e = .returned (.iface 82 (.int .i64 20)) ∧ ∃ m, w' = w.drewN m := by
  have F := Lib.hid (tfind_miss t g n cap kind h xs w H hT ha)
  clear H hT ha
  go_enter Try.func51, Try.ntmps51
  go_wp2_with fail
  refine F.out.mono ?_
  rintro e w' ⟨rfl, m, rfl⟩
  go_wp2
  go_ret
  exact ⟨rfl, _, rfl⟩

end Go.Proofs.Ytdilediiofenmaa

/- Of the text TS4 only what this claim needs (shake.py, this repo's). -/
set_option linter.unusedVariables false
set_option linter.unusedSimpArgs false
namespace Go.Proofs.Ytdilediiofenmaa
open Go.RowKit
open Go.Proofs.YtdilediiofenmaaW.PrintWords (Kd Drawn0 Kept rd rdOf)
open Go.Proofs.Ytdilediiofenmaa.PSlackRuns
set_option maxRecDepth 100000

/-- May the slot be given? -/
def FreeSk (x : Sk) : Prop := x.f1 = false ∧ x.f0 ≤ 1023
instance (x : Sk) : Decidable (FreeSk x) := by unfold FreeSk; infer_instance

set_option maxHeartbeats 2000000 in
theorem tadd_hit (t g n cap i : Nat) (kind : Int) (v : Value) (T : Tk) (xs : List Sk) (x : Sk) (w : World) (H : TT w t g n cap kind xs) (hT : TM kind n xs) (hx : xs[i]? = some x) (hf : FreeSk x) (hj : JR w v T.js) (hjl : T.js.length ≤ 9223372036854775800) (ha : ∀ (j : Nat) (y : Sk), j < i → xs[j]? = some y → ¬ FreeSk y) :
    Calls Try.prog 31 #[.pointer (some ⟨t, 0, none⟩), T.v v] w fun e w' => e = .returned (.tuple #[.int .i64 (mk kind i x.f0), .nilIface]) ∧ TT w' t g n cap kind (xs.set i ⟨x.f0, true, v, T⟩) ∧ Chg (fun k => k = g) w w' := by
  obtain ⟨A, c, rfl⟩ := hj.slice
  have cw := H.c1
  have lw := H.lt
  obtain ⟨b0, hb0⟩ : ∃ b, b = w.heap.size := ⟨_, rfl⟩
  obtain ⟨W0, hW0⟩ : ∃ W, W = w.alloc (.cells #[.int .i64 T.p, .slice A T.js.length c, .int .i64 T.g, .int .i64 T.o, .int .i64 T.l, .int .i64 T.d, .int .i64 T.c, .int .i64 T.t] 56) := ⟨_, rfl⟩
  have hB0 : Below w.heap.size w W0 := by rw [hW0]; exact (Below.refl _ w).alloc (Nat.le_refl _) _
  obtain ⟨⟨v0, v1, v2, v3, v4, v5, v6, v7⟩, -⟩ := blk8 (show W0.heap[b0]? = some (.cells #[.int .i64 T.p, .slice A T.js.length c, .int .i64 T.g, .int .i64 T.o, .int .i64 T.l, .int .i64 T.d, .int .i64 T.c, .int .i64 T.t] 56 (0, 0)) by rw [hW0, hb0]; exact heap_alloc_new w _)
  have HB0 := Lib.hid hB0
  have HW0 := Lib.hid hW0
  have Hb0 := Lib.hid hb0
  have hgb : g ≠ b0 := by rw [hb0]; exact Nat.ne_of_lt H.ltg
  replace H := H.below hB0
  replace hj := hj.below hB0
  have c1 := H.c1
  have hl := H.len
  have hn := hT.n1
  have hi : i < n := by have := (List.getElem?_eq_some_iff.1 hx).1; omega
  have HH := Lib.hid H
  have HT := Lib.hid hT
  have HA := Lib.hid ha
  obtain ⟨gen, tk, v0, T0⟩ := x
  obtain ⟨hf1, hf2⟩ := hf
  obtain rfl : tk = false := hf1
  have HX := Lib.hid hx
  have HF := Lib.hid hf2
  have HJ := Lib.hid hj
  have HJL := Lib.hid hjl
  clear H hT ha hx hf2 hj hjl hB0 hW0 hb0
  go_enter Try.func31, Try.ntmps31
  go_wp2_with fail
  rw [← HW0.out, ← Hb0.out]
  clear cw lw
  go_loop [16] (fun u => ∃ k : Nat, k ≤ i ∧ u = .int .i64 k) (fun u => i - (intOf u).toNat)
  case atStart => exact ⟨0, Nat.zero_le _, rfl⟩
  case round =>
    obtain ⟨k, hk, rfl⟩ := hrel
    have hkn : k < n := by omega
    by_cases hlt : k < i
    · obtain ⟨y, hy⟩ : ∃ y, xs[k]? = some y := ⟨xs[k], List.getElem?_eq_getElem (by omega)⟩
      have e1 := HH.out.e1 hy
      have e0 := HH.out.e0 hy
      have hno := HA.out k y hlt hy
      clear hy
      obtain ⟨gen', tk, v1, T1⟩ := y
      cases tk with
      | true =>
        clear hno
        go_wp2
        go_round
        case rel => exact ⟨k + 1, by omega, by go_num⟩
        case measure => simp [intOf]; omega
      | false =>
        have t1 : decide (gen' ≤ 1023) = false := decide_eq_false (fun h => hno ⟨rfl, h⟩)
        clear hno
        go_wp2
        go_round
        case rel => exact ⟨k + 1, by omega, by go_num⟩
        case measure => simp [intOf]; omega
    · obtain rfl : k = i := by omega
      have e1 : W0.cell? ⟨g, k * 10 + 1, none⟩ = some (.bool false) := HH.out.e1 HX.out
      have e0 : W0.cell? ⟨g, k * 10, none⟩ = some (.int .i64 gen) := HH.out.e0 HX.out
      obtain ⟨e2, e3, e4, e5, e6, e7, e8, e9⟩ := HH.out.e8 HX.out
      obtain ⟨f0, f1, f2, f3, f4, f5, f6, f7, f8, f9⟩ := HH.out.f10 k
      obtain ⟨B0, d0, hv0⟩ : ∃ B d, v0 = .slice B T0.js.length d := (HH.out.jr k _ HX.out).slice
      rw [hv0] at e3
      clear hv0
      have t1 : decide (gen ≤ 1023) = true := decide_eq_true HF.out
      have hkl : k < xs.length := by omega
      obtain ⟨W9, hW9⟩ : ∃ W, W = (((((((((W0.setCell ⟨g, k * 10 + 1, none⟩ (.bool true)).setCell ⟨g, k * 10 + 2, none⟩ (.int .i64 T.p)).setCell ⟨g, k * 10 + 2 + 1, none⟩ (.slice A T.js.length c)).setCell ⟨g, k * 10 + 2 + 2, none⟩ (.int .i64 T.g)).setCell ⟨g, k * 10 + 2 + 3, none⟩ (.int .i64 T.o)).setCell ⟨g, k * 10 + 2 + 4, none⟩ (.int .i64 T.l)).setCell ⟨g, k * 10 + 2 + 5, none⟩ (.int .i64 T.d)).setCell ⟨g, k * 10 + 2 + 6, none⟩ (.int .i64 T.c)).setCell ⟨g, k * 10 + 2 + 7, none⟩ (.int .i64 T.t)).drew := ⟨_, rfl⟩
      have r : TT W9 t g n cap kind (xs.set k ⟨gen, true, .slice A T.js.length c, T⟩) ∧ Chg (fun k => k = g) W0 W9 := by
        have r := HH.out.set9 HX.out true (.slice A T.js.length c) T HJ.out rfl
        rw [hW9]
        exact ⟨r.1.drew, r.2.drew⟩
      have N := tname_q t g n cap k kind _ ⟨gen, true, .slice A T.js.length c, T⟩ _ r.1 (HT.out.set k ⟨gen, true, .slice A T.js.length c, T⟩ (HT.out.gen k _ HX.out).1 (HT.out.gen k _ HX.out).2 (fun _ => HF.out) HJL.out) (by simp [hkl]) HF.out
      have HN := Lib.hid N
      have HH2 := Lib.hid r
      have HW9 := Lib.hid hW9
      clear N r hW9
      go_wp2_with fail
      first | go_loud (go_region_with (fail)) | fail
      all_goals
        rw [← HW9.out]
        go_wp2_with fail
        refine HN.out.mono ?_
        rintro e w' ⟨rfl, m, rfl⟩
        go_wp2
        go_ret2
        exact ⟨rfl, HH2.out.1.drewN m, (Chg.ofBelow HB0.out _).trans (HH2.out.2.drewN m)⟩

end Go.Proofs.Ytdilediiofenmaa

/- Of the text TS5 only what this claim needs (shake.py, this repo's). -/
set_option linter.unusedVariables false
set_option linter.unusedSimpArgs false
namespace Go.Proofs.Ytdilediiofenmaa
open Go.RowKit
open Go.Proofs.YtdilediiofenmaaW.PrintWords (Kd Drawn0 Kept rd rdOf)
open Go.Proofs.Ytdilediiofenmaa.PSlackRuns
set_option maxRecDepth 100000

theorem wpList_make_rows {P : Program} (w : World) {ops : Array Oper} {rest : List Oper} {o : Oper} {a : Act} {Q : Exit → Act → World → Prop}
    (hg : o.guard = none) (l c : Operand) (t : TypeId) (hop : o.op = Op.makeSlice t l c)
    (e : TypeId) (z : Value) (sz bytes : Nat) (ht : P.underlying t = some (.slice e)) (hinfo : (P.info? e).map (fun i => (i.zero, i.size, i.bytes)) = some (some z, sz, bytes))
    (n : Nat) (hl : a.eval l = .int .i64 (n : Int)) (hc : a.eval c = .int .i64 (n : Int)) (hbytes : bytes * n ≤ 281474976710656) (h63 : n ≤ 9223372036854775807)
    (hK : wpList P ops Q rest (a.put o.dst (.slice (some ⟨w.heap.size, 0, none⟩) n n)) (w.alloc (.cells (madeCells z.cells (n * sz)) e))) :
    wpList P ops Q (o :: rest) a w := by
  obtain ⟨i, hi, hzz⟩ := Option.map_eq_some_iff.1 hinfo
  simp only [Prod.mk.injEq] at hzz
  obtain ⟨hz, hs, hb⟩ := hzz
  have hb3 : (i.bytes : Int) * (n : Int) ≤ 281474976710656 := by
    have h3 : ((bytes * n : Nat) : Int) ≤ 281474976710656 := by omega
    rw [Int.natCast_mul] at h3
    rw [hb]
    exact h3
  refine wpList_plain hg fun K hK' => ?_
  have hrun := run_make (P := P) w t e i z ht hi hz .i64 .i64 (n : Int) (n : Int) (by omega) (by omega) hb3 (by omega)
  simp only [Int.toNat_natCast, hs] at hrun
  unfold Oper.wp
  simp [execOp, hop, hl, hc, hrun, Result.andThen]
  exact hK' _ _ hK
theorem made_at {z : Array Value} {n sz i j : Nat} {u : Value} (hs : z.size = sz) (hi : i < n) (hu : z.toList[j]? = some u) : (madeCells z (n * sz))[i * sz + j]? = some u := by
  have hj : j < sz := by
    have := (List.getElem?_eq_some_iff.1 hu).1
    rw [Array.length_toList] at this
    omega
  have hlt : i * sz + j < n * sz := by
    have : (i + 1) * sz ≤ n * sz := Nat.mul_le_mul_right sz hi
    rw [Nat.add_mul] at this
    omega
  have hm : (i * sz + j) % sz = j := by rw [Nat.mul_comm, Nat.mul_add_mod]; exact Nat.mod_eq_of_lt hj
  have hu' : z[j]? = some u := by simpa using hu
  simp only [madeCells, Array.getElem?_map, Array.getElem?_range, hlt, if_true, Option.map_some, Option.some.injEq, hs, hm]
  rw [getElem!_def, hu']
theorem RW.made {w : World} {ty : TypeId} {sz n : Nat} {z : Array Value} (hs : z.size = sz) (hn : n ≤ maxLen) : RW (w.alloc (.cells (madeCells z (n * sz)) ty)) ty sz w.heap.size n n (List.replicate n z.toList) := by
  refine ⟨⟨_, heap_alloc_new w _, by rw [size_madeCells], fun i r hr => ?_⟩, Nat.le_refl _, hn, by simp⟩
  obtain ⟨hi, e⟩ := List.getElem?_eq_some_iff.1 hr
  rw [List.getElem_replicate] at e
  subst e
  have hi' : i < n := by simpa using hi
  exact ⟨by rw [Array.length_toList, hs], fun j u hu => made_at hs hi' hu⟩

abbrev zSk : Sk := noSk 0
abbrev oneSk : Sk := noSk 1
def midSk (k n : Nat) : List Sk := (List.range n).map fun i => if i < k then oneSk else zSk
theorem midSk_at {k n : Nat} (h : k < n) : (midSk k n)[k]? = some zSk := by
  unfold midSk
  rw [List.getElem?_map, List.getElem?_range h]
  simp
theorem midSk_set {k n : Nat} (h : k < n) : (midSk k n).set k oneSk = midSk (k + 1) n := by
  apply List.ext_getElem?
  intro i
  rw [List.getElem?_set]
  unfold midSk
  simp only [List.length_map, List.length_range, List.getElem?_map]
  by_cases e : k = i
  · subst e
    rw [List.getElem?_range h]
    simp [h]
  · rw [if_neg e]
    rcases Nat.lt_or_ge i n with hi | hi
    · rw [List.getElem?_range hi]
      simp only [Option.map_some, Option.some.injEq]
      by_cases hk : i < k
      · rw [if_pos hk, if_pos (by omega)]
      · rw [if_neg hk, if_neg (by omega)]
    · rw [List.getElem?_eq_none (by simpa using hi)]
      rfl
theorem midSk_end (n : Nat) : midSk n n = List.replicate n oneSk := by
  unfold midSk
  apply List.ext_getElem?
  intro i
  rw [List.getElem?_map, List.getElem?_replicate]
  rcases Nat.lt_or_ge i n with hi | hi
  · rw [List.getElem?_range hi]; simp [hi]
  · rw [List.getElem?_eq_none (by simpa using hi), if_neg (by omega)]; rfl
theorem midSk_start (n : Nat) : midSk 0 n = List.replicate n zSk := by
  unfold midSk
  apply List.ext_getElem?
  intro i
  rw [List.getElem?_map, List.getElem?_replicate]
  rcases Nat.lt_or_ge i n with hi | hi
  · rw [List.getElem?_range hi]; simp [hi]
  · rw [List.getElem?_eq_none (by simpa using hi), if_neg (by omega)]; rfl
abbrev zAgg : Value := .agg #[.int .i64 0, .bool false, .int .i64 0, .slice none 0 0, .int .i64 0, .int .i64 0, .int .i64 0, .int .i64 0, .int .i64 0, .int .i64 0]
theorem infoSk : (Try.prog.info? 119).map (fun i => (i.zero, i.size, i.bytes)) = some (some zAgg, 10, 96) := by kernel_rfl

theorem TM.one {kind : Int} {n : Nat} (k0 : 1 ≤ kind) (k3 : kind ≤ 3) (n0 : 1 ≤ n) (n1 : n ≤ 4096) : TM kind n (List.replicate n oneSk) := by
  have hr : ∀ (i : Nat) (x : Sk), (List.replicate n oneSk)[i]? = some x → x = oneSk := by
    intro i x hx
    obtain ⟨h, e⟩ := List.getElem?_eq_some_iff.1 hx
    rw [List.getElem_replicate] at e
    exact e.symm
  refine ⟨k0, k3, n0, n1, by simp, ?_, ?_, ?_⟩
  · intro i x hx
    obtain rfl := hr i x hx
    exact ⟨by decide, by decide⟩
  · intro i x hx hf
    obtain rfl := hr i x hx
    simp at hf
  · intro i x hx
    obtain rfl := hr i x hx
    exact Nat.zero_le _

theorem tnews_ok (kind : Int) (n : Nat) (w : World) (k0 : 1 ≤ kind) (k3 : kind ≤ 3) (n0 : 1 ≤ n) (n1 : n ≤ 4096) :
    Calls Try.prog 29 #[.int .i64 kind, .int .i64 (n : Int)] w fun e w' => ∃ t g cap, e = .returned (.tuple #[.pointer (some ⟨t, 0, none⟩), .nilIface]) ∧ TT w' t g n cap kind (List.replicate n oneSk) ∧ w.heap.size ≤ t ∧ w.heap.size ≤ g ∧ Below w.heap.size w w' := by
  have t1 : decide (kind < 1) = false := decide_eq_false (by omega)
  have t2 : decide (3 < kind) = false := decide_eq_false (by omega)
  have t3 : decide ((n : Int) < 1) = false := decide_eq_false (by omega)
  have t4 : decide ((4096 : Int) < n) = false := decide_eq_false (by omega)
  have t3' : decide (n < 1) = false := decide_eq_false (by omega)
  have t4' : decide (4096 < n) = false := decide_eq_false (by omega)
  have HR : Hid (RW (w.alloc (.cells (madeCells zAgg.cells (n * 10)) 119)) 119 10 w.heap.size n n (List.replicate n zSk.cs)) := Lib.hid (RW.made (z := zAgg.cells) rfl (by unfold maxLen; omega))
  have HB := Lib.hid (below_alloc (Below.refl w.heap.size w) (Nat.le_refl _) (.cells (madeCells zAgg.cells (n * 10)) 119))
  obtain ⟨w1, hw1⟩ : ∃ W, W = w.alloc (.cells (madeCells zAgg.cells (n * 10)) 119) := ⟨_, rfl⟩
  obtain ⟨g, hg⟩ : ∃ g, g = w.heap.size := ⟨_, rfl⟩
  have HG : Hid (w.heap.size ≤ g) := Lib.hid (by omega)
  have HGT : Hid (g < w1.heap.size) := by rw [hw1, hg]; exact Lib.hid (by simp)
  rw [← hw1] at HR HB
  have HWT : Hid (w.heap.size ≤ w1.heap.size) := Lib.hid HB.out.size
  have HW1 := Lib.hid hw1
  have Hg := Lib.hid hg
  have HT : Hid (TT (w1.alloc (.cells #[.int .i64 kind, .slice (some ⟨g, 0, none⟩) n n] 117)) w1.heap.size g n n kind (midSk 0 n)) := by
    rw [midSk_start, hg]
    refine Lib.hid ⟨heap_alloc_new w1 _, ?_, ?_⟩
    · have := HR.out.below ((Below.refl _ w1).alloc (Nat.le_refl _) (.cells #[.int .i64 kind, .slice (some ⟨w.heap.size, 0, none⟩) n n] 117))
      rwa [← List.map_replicate] at this
    · intro i x hx
      obtain ⟨h, e⟩ := List.getElem?_eq_some_iff.1 hx
      rw [List.getElem_replicate] at e
      subst e
      exact JR.nil _
  have HB2 := Lib.hid (below_alloc HB.out (Nat.le_refl _) (.cells #[.int .i64 kind, .slice (some ⟨g, 0, none⟩) n n] 117))
  clear hw1 hg
  go_enter Try.func29, Try.ntmps29
  go_wp2_with (first
    | (refine wpList_make_rows _ rfl (.tmp 24) (.tmp 24) _ rfl 119 zAgg 10 96 Try.underlying115 infoSk n rfl rfl (by omega) (by omega) ?_; rw [← HW1.out, ← Hg.out])
    | fail)
  generalize w1.alloc (.cells #[.int .i64 kind, .slice (some ⟨g, 0, none⟩) n n] 117) = W2 at HB2 HT ⊢
  generalize w1.heap.size = t at HGT HWT HT ⊢
  clear HR HB
  go_loopw [33] (fun i wr => ∃ k : Nat, k ≤ n ∧ i = .int .i64 k ∧ Hid (TT wr t g n n kind (midSk k n)) ∧ Hid (Below w.heap.size w wr)) (fun i _ => n - (intOf i).toNat)
  case atStart => exact ⟨0, Nat.zero_le _, rfl, HT, HB2⟩
  case round =>
    obtain ⟨k, hk, rfl, hT, hB⟩ := hrel
    clear HT HB2
    by_cases hlt : k < n
    · have c1 := hT.out.c1
      have e0 : wr.cell? ⟨g, k * 10, none⟩ = some (.int .i64 0) := hT.out.e0 (midSk_at hlt)
      have f0 := hT.out.fz (k * 10)
      have HS : Hid (TT (wr.setCell ⟨g, k * 10, none⟩ (.int .i64 1)) t g n n kind (midSk (k + 1) n)) := by
        rw [← midSk_set hlt]
        exact Lib.hid (hT.out.put (midSk_at hlt) oneSk ((Chg.refl _ wr).setCell ⟨g, k * 10, none⟩ _ rfl) (hT.out.row.set (hT.out.r (midSk_at hlt)) 0 (by omega) (.int .i64 1)) (JR.nil _))
      have HBS := Lib.hid (hB.out.setCell (p := ⟨g, k * 10, none⟩) HG.out (.int .i64 1))
      clear hT hB
      go_wp2
      go_roundw
      case rel => exact ⟨k + 1, by omega, by go_num, HS, HBS⟩
      case measure => simp [intOf]; omega
    · obtain rfl : k = n := by omega
      go_wp2
      go_ret2
      rw [midSk_end] at hT
      exact ⟨t, g, k, rfl, hT.out, HWT.out, HG.out, hB.out⟩

end Go.Proofs.Ytdilediiofenmaa

/- Of the text TS6 only what this claim needs (shake.py, this repo's). -/
set_option linter.unusedVariables false
set_option linter.unusedSimpArgs false
namespace Go.Proofs.Ytdilediiofenmaa
open Go.RowKit
open Go.Proofs.YtdilediiofenmaaW.PrintWords (Kd Drawn0 Kept rd rdOf)
open Go.Proofs.Ytdilediiofenmaa.PSlackRuns
set_option maxRecDepth 100000

/-- The handles of what is taken, from the slot i on. -/
def tallF (kind : Int) : Nat → List Sk → List Int
  | _, [] => []
  | i, x :: r => if x.f1 = true then mk kind i x.f0 :: tallF kind (i + 1) r else tallF kind (i + 1) r
def tallH (kind : Int) (xs : List Sk) : List Int := tallF kind 0 xs
theorem tallF_snoc (kind : Int) (x : Sk) : ∀ (xs : List Sk) (i : Nat), tallF kind i (xs ++ [x]) = tallF kind i xs ++ if x.f1 = true then [mk kind (i + xs.length : Nat) x.f0] else []
  | [], i => by simp only [List.nil_append, tallF, List.length_nil, Nat.add_zero]
  | y :: ys, i => by
    simp only [List.cons_append, tallF, tallF_snoc kind x ys (i + 1), List.length_cons, show i + 1 + ys.length = i + (ys.length + 1) by omega]
    split <;> rfl
theorem tallF_le (kind : Int) : ∀ (xs : List Sk) (i : Nat), (tallF kind i xs).length ≤ xs.length
  | [], i => by simp [tallF]
  | y :: ys, i => by
    have := tallF_le kind ys (i + 1)
    simp only [tallF]
    split <;> simp <;> omega
theorem ttake_snoc {α : Type} (xs : List α) (k : Nat) (x : α) (h : xs[k]? = some x) : xs.take (k + 1) = xs.take k ++ [x] := by
  rw [List.take_add_one, h]; rfl
theorem tall_take (kind : Int) (xs : List Sk) (k : Nat) (x : Sk) (h : xs[k]? = some x) : tallH kind (xs.take (k + 1)) = tallH kind (xs.take k) ++ if x.f1 = true then [mk kind k x.f0] else [] := by
  have hk := (List.getElem?_eq_some_iff.1 h).1
  unfold tallH
  rw [ttake_snoc xs k x h, tallF_snoc]
  simp [Nat.min_eq_left (Nat.le_of_lt hk)]

theorem infoH : (Try.prog.info? 25).map (fun i => (i.zero, i.size, i.bytes)) = some (some (.int .i64 0), 1, 8) := by kernel_rfl
set_option maxHeartbeats 1000000 in
theorem tall_ok (t g n cap : Nat) (kind : Int) (xs : List Sk) (w : World) (H : TT w t g n cap kind xs) (hT : TM kind n xs) :
    Calls Try.prog 48 #[.pointer (some ⟨t, 0, none⟩)] w fun e w' => ∃ v, e = .returned v ∧ (Kd.int .i64).R 25 w' w.heap.size (fun _ => True) v (tallH kind xs) ∧ Below w.heap.size w w' := by
  have c1 := H.c1
  have hl := H.len
  have hn := hT.n1
  have HH := Lib.hid H
  have HT := Lib.hid hT
  clear H hT
  go_enter Try.func48, Try.ntmps48
  go_wp2
  clear c1
  go_loopw [3, 13] (fun v i wr => ∃ k : Nat, k ≤ n ∧ i = .int .i64 k ∧ Hid ((Kd.int .i64).R 25 wr w.heap.size (fun _ => True) v (tallH kind (xs.take k))) ∧ Hid (Below w.heap.size w wr)) (fun _ i _ => n - (intOf i).toNat)
  case atStart => exact ⟨0, Nat.zero_le _, rfl, Lib.hid (Kd.R_nil _ _ _ _ _), Lib.hid (Below.refl _ _)⟩
  case round =>
    obtain ⟨k, hk, rfl, hR, hB⟩ := hrel
    by_cases hlt : k < n
    · obtain ⟨x, hx⟩ : ∃ x, xs[k]? = some x := ⟨xs[k], List.getElem?_eq_getElem (by omega)⟩
      have HW := Lib.hid (HH.out.below hB.out)
      have e0 := HW.out.e0 hx
      have e1 := HW.out.e1 hx
      obtain ⟨e2, e3, e4, e5, e6, e7, e8, e9⟩ := HW.out.e8 hx
      obtain ⟨B0, d0, hv0⟩ : ∃ B d, x.v = .slice B x.T.js.length d := (HW.out.jr k x hx).slice
      rw [hv0] at e3
      clear hv0
      have AT := Lib.hid (tall_take kind xs k x hx)
      have HX := Lib.hid hx
      clear hx
      obtain ⟨gen, tk, v0, T0⟩ := x
      cases tk with
      | false =>
        go_wp2
        go_roundw
        case rel => exact ⟨k + 1, by omega, by go_num, Lib.hid (by rw [AT.out]; simpa using Kd.R_alloc hR.out _), Lib.hid (below_alloc hB.out (Nat.le_refl _) _)⟩
        case measure => simp [intOf]; omega
      | true =>
        go_wp2_with fail
        have HB1 := Lib.hid (below_alloc hB.out (Nat.le_refl _) (.cells #[.int .i64 gen, .bool true, .int .i64 T0.p, .slice B0 T0.js.length d0, .int .i64 T0.g, .int .i64 T0.o, .int .i64 T0.l, .int .i64 T0.d, .int .i64 T0.c, .int .i64 T0.t] 119))
        have HR1 := Lib.hid (Kd.R_alloc hR.out (.cells #[.int .i64 gen, .bool true, .int .i64 T0.p, .slice B0 T0.js.length d0, .int .i64 T0.g, .int .i64 T0.o, .int .i64 T0.l, .int .i64 T0.d, .int .i64 T0.c, .int .i64 T0.t] 119))
        have HW1 := Lib.hid (HW.out.below ((Below.refl _ wr).alloc (Nat.le_refl _) (.cells #[.int .i64 gen, .bool true, .int .i64 T0.p, .slice B0 T0.js.length d0, .int .i64 T0.g, .int .i64 T0.o, .int .i64 T0.l, .int .i64 T0.d, .int .i64 T0.c, .int .i64 T0.t] 119)))
        generalize (wr.alloc (.cells #[.int .i64 gen, .bool true, .int .i64 T0.p, .slice B0 T0.js.length d0, .int .i64 T0.g, .int .i64 T0.o, .int .i64 T0.l, .int .i64 T0.d, .int .i64 T0.c, .int .i64 T0.t] 119)) = W1 at HB1 HR1 HW1 ⊢
        clear HW hR hB e0 e1 e2 e3 e4 e5 e6 e7 e8 e9
        refine (tname_q t g n cap k kind xs _ W1 HW1.out HT.out HX.out (HT.out.top k _ HX.out rfl)).mono ?_
        rintro e w' ⟨rfl, m, hw⟩
        have HB2 := Lib.hid (show Below w.heap.size w w' by rw [hw]; exact below_drewN' HB1.out m)
        have HR2 := Lib.hid (show (Kd.int .i64).R 25 w' w.heap.size (fun _ => True) u3 (tallH kind (xs.take k)) by rw [hw]; exact Kd.R_drewN HR1.out m)
        clear hw HB1 HR1 HW1
        have hle : (tallH kind (xs.take k)).length ≤ 4096 := by
          have := tallF_le kind (xs.take k) 0
          unfold tallH
          simp only [List.length_take] at this
          omega
        go_wp2_with (first
          | (at_builtin; go_loud (refine Kd.R_append (Kd.int .i64) (w0 := w) w.heap.size rfl (.tmp 20) (.tmp 24) 24 25 (.int .i64 0) 8 rfl Try.underlying24 infoH rfl (by decide) (by omega) _ (tallH kind (xs.take k)) (mk kind k gen) [.int .i64 (mk kind k gen)] (fun _ => True) (fun _ => False) rfl rfl rfl (fun _ hk => hk.elim) (fun _ _ => trivial) HR2.out HB2.out (by have := HB2.out.size; omega) (by omega) ?_); intro v1 w1 hR1 hB1 hg1 hat1)
          | fail)
        have HR3 := Lib.hid (show (Kd.int .i64).R 25 w1 w.heap.size (fun _ => True) v1 (tallH kind (xs.take (k + 1))) by rw [AT.out]; exact hR1)
        have HB3 := Lib.hid hB1
        clear hR1 hB1 hg1 hat1
        go_wp2
        go_roundw
        case rel => exact ⟨k + 1, by omega, by go_num, HR3, HB3⟩
        case measure => simp [intOf]; omega
    · go_wp2
      go_ret
      have e : k = n := by omega
      subst e
      refine ⟨_, rfl, ?_, hB.out⟩
      have := hR.out
      rwa [List.take_of_length_le (by omega)] at this

end Go.Proofs.Ytdilediiofenmaa
