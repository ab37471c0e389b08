/- Of the text TkU0 only what this claim needs (shake.py, this repo's). -/
import Derived.Test.YtkfjlkpickeobaaDoorZTkN0
import Derived.Test.YtkfjlkpickeobaaDoorZTkAp
import Derived.Test.YtkfjlkpickeobaaDoorZTkAq
set_option linter.unusedVariables false
set_option linter.unusedSimpArgs false
namespace Go.Proofs.YtkfjlkpickeobaaDoor
open Go.RowKit
open Go.Proofs.YtkfjlkpickeobaaDoorW.PrintWords (Kd Drawn0 Kept rd rdOf ReadsRow)
open Go.Proofs.YtkfjlkpickeobaaDoorW.PrintWords (mn)
open Go.Proofs.YtkfjlkpickeobaaDoor.PTaskRuns
set_option maxRecDepth 100000

/-- The task in the printed form. -/
abbrev Tk.s (T : Tk) : S26 := ⟨T.p, T.js, ⟨T.g, T.o, T.l, T.d, T.c, T.t⟩⟩
theorem list_of {α : Type} (P : Nat → α → Prop) : ∀ n : Nat, (∀ i, i < n → ∃ x, P i x) → ∃ xs : List α, xs.length = n ∧ ∀ i x, xs[i]? = some x → P i x
  | 0, _ => ⟨[], rfl, fun i x h => by simp at h⟩
  | n + 1, h => by
    obtain ⟨xs, h1, h2⟩ := list_of P n (fun i hi => h i (by omega))
    obtain ⟨x, hx0⟩ := h n (by omega)
    refine ⟨xs ++ [x], by simp [h1], ?_⟩
    intro i y hy
    rcases Nat.lt_or_ge i n with hi | hi
    · rw [List.getElem?_append_left (by omega)] at hy
      exact h2 i y hy
    · rw [List.getElem?_append_right (by omega)] at hy
      have hi2 : i - xs.length = 0 := by
        have := (List.getElem?_eq_some_iff.1 hy).1
        simp at this
        omega
      rw [hi2] at hy
      obtain rfl : x = y := by simpa using hy
      obtain rfl : i = n := by omega
      exact hx0
theorem TL.c26 {w : World} {A : Option Addr} {n : Nat} {Ts : List (Tk × Value)} (h : TL w A n Ts) (hn : n ≤ 9223372036854775807) : Kd.C k26 w A (Ts.map fun p => p.1.s).length (Ts.map fun p => p.1.s) := by
  obtain ⟨hl, hel⟩ := h
  refine ⟨rfl, by simpa [hl] using hn, fun hpos => ?_⟩
  have hpos' : 0 < Ts.length := by simpa using hpos
  obtain ⟨⟨T0, v0⟩, h0⟩ : ∃ p, Ts[0]? = some p := ⟨_, List.getElem?_eq_getElem hpos'⟩
  obtain ⟨b, o, rfl, -⟩ := hel 0 T0 v0 h0
  refine ⟨_, rfl, fun j x hx => ?_⟩
  obtain ⟨⟨T, v⟩, ht, rfl⟩ : ∃ p, Ts[j]? = some p ∧ p.1.s = x := by simpa [List.getElem?_map] using hx
  obtain ⟨b', o', e, hy⟩ := hel j T v ht
  obtain ⟨rfl, rfl⟩ : b = b' ∧ o = o' := by simpa using e
  obtain ⟨c0, c1, c2, c3, c4, c5, c6, c7, A1, k1, rfl, q1, q2⟩ := hy
  refine ⟨_, rfl, k26_mk w T.s q1 q2, fun i u hu => ?_⟩
  show w.cell? ((⟨b, o, none⟩ : Addr).add (j * 8 + i)) = some u
  rw [Go.WideShapes.add_plain, ← Nat.add_assoc]
  match i, hu with
  | 0, hu => obtain rfl := Option.some.inj hu; exact c0
  | 1, hu => obtain rfl := Option.some.inj hu; exact c1
  | 2, hu => obtain rfl := Option.some.inj hu; exact c2
  | 3, hu => obtain rfl := Option.some.inj hu; exact c3
  | 4, hu => obtain rfl := Option.some.inj hu; exact c4
  | 5, hu => obtain rfl := Option.some.inj hu; exact c5
  | 6, hu => obtain rfl := Option.some.inj hu; exact c6
  | 7, hu => obtain rfl := Option.some.inj hu; exact c7
theorem TL.of_c26 {w : World} {b o : Nat} {xs : List S26} (h : Kd.C k26 w (some ⟨b, o, none⟩) xs.length xs) : ∃ Us : List (Tk × Value), TL w (some ⟨b, o, none⟩) xs.length Us ∧ Us.map (fun p => p.1.s) = xs := by
  obtain ⟨Us, h1, h2⟩ := list_of (fun i (p : Tk × Value) => TAt w b o i p.1 p.2 ∧ xs[i]? = some p.1.s) xs.length (fun i hi => by
    obtain ⟨ad, c, e, -, hK, hc⟩ := Kd.C_get h z26 (i : Int) (by omega) (by omega)
    obtain rfl : (⟨b, o, none⟩ : Addr) = ad := by simpa using e
    obtain ⟨A1, c1, rfl, l1, g1⟩ := k26_open hK
    obtain ⟨x, hx⟩ : ∃ x, x = xs.getD (i : Int).toNat z26 := ⟨_, rfl⟩
    have hx' : xs[i]? = some x := by rw [hx]; simp [List.getD_eq_getElem?_getD, List.getElem?_eq_getElem hi]
    rw [← hx] at l1 g1 hc
    have hc' : ∀ j u, ([.int .i64 x.f0, .slice A1 x.f1.length c1, .int .i64 x.f2.f0, .int .i64 x.f2.f1, .int .i64 x.f2.f2, .int .i64 x.f2.f3, .int .i64 x.f2.f4, .int .i64 x.f2.f5] : List Value)[j]? = some u → w.cell? ⟨b, o + i * 8 + j, none⟩ = some u := fun j u hu => by
      have := hc j u hu
      rw [Go.WideShapes.add_plain, ← Nat.add_assoc] at this
      exact this
    exact ⟨(⟨x.f0, x.f1, x.f2.f0, x.f2.f1, x.f2.f2, x.f2.f3, x.f2.f4, x.f2.f5⟩, .slice A1 x.f1.length c1), ⟨hc' 0 _ rfl, hc' 1 _ rfl, hc' 2 _ rfl, hc' 3 _ rfl, hc' 4 _ rfl, hc' 5 _ rfl, hc' 6 _ rfl, hc' 7 _ rfl, ⟨A1, c1, rfl, l1, g1⟩⟩, hx'⟩)
  refine ⟨Us, ⟨h1, fun i T v hi => ⟨b, o, rfl, (h2 i (T, v) hi).1⟩⟩, ?_⟩
  refine List.ext_getElem? fun i => ?_
  rw [List.getElem?_map]
  rcases Nat.lt_or_ge i xs.length with hi | hi
  · obtain ⟨p, hp⟩ : ∃ p, Us[i]? = some p := ⟨_, List.getElem?_eq_getElem (by omega)⟩
    rw [hp, (h2 i p hp).2]
    rfl
  · rw [List.getElem?_eq_none hi, List.getElem?_eq_none (by omega)]
    rfl

theorem pick_eq (l : List S26) : ∀ (k : Nat) (b i : Int), task_Pick.l0 k l b l (l.length : Int) i = titheref12_Pick.l0 k l b i
  | 0, b, i => rfl
  | k + 1, b, i => by
    have ih := pick_eq l k
    simp only [task_Pick.l0, titheref12_Pick.l0, task_Ready.f, titheref12_Ready.f, ih]
    by_cases h : i < (l.length : Int)
    · simp only [h, if_true]
    · simp only [h, if_false]
theorem pick_some (l : List S26) (hl : l.length ≤ 4000000000000) : ∀ (m i k : Nat) (b : Int), i + m = l.length → m < k → -1 ≤ b → b < l.length → (b < 0 ∨ b < i) → ∃ z, titheref12_Pick.l0 k l b (i : Int) = some z := by
  intro m
  induction m with
  | zero =>
    intro i k b hi hk h1 h2 h3
    obtain ⟨k, rfl⟩ : ∃ c, k = c + 1 := ⟨k - 1, by omega⟩
    simp only [titheref12_Pick.l0]
    rw [if_neg (by omega)]
    exact ⟨_, rfl⟩
  | succ m ih =>
    intro i k b hi hk h1 h2 h3
    obtain ⟨k, rfl⟩ : ∃ c, k = c + 1 := ⟨k - 1, by omega⟩
    have a1 := ih (i + 1) k (i : Int) (by omega) (by omega) (by omega) (by omega) (by omega)
    have a2 := ih (i + 1) k b (by omega) (by omega) h1 h2 (by omega)
    simp only [titheref12_Pick.l0, titheref12_Ready.f, wrap_i (show i < 9223372036854775806 by omega)]
    rw [if_pos (by omega), if_pos (by omega)]
    simp only [Option.bind_some]
    repeat' split
    all_goals first | exact a1 | exact a2 | omega
theorem picks_c (A : Option Addr) (n c : Nat) (Ts : List (Tk × Value)) (w : World) (h : TL w A n Ts) (hnc : n ≤ c) (hn : n ≤ 4000000000000) {z : Int} (hz : titheref12_Pick.l0 (n + 1) (Ts.map fun p => p.1.s) (-1) 0 = some z) :
    Calls Tryd.prog 20 #[.slice A n c] w (fun e w' => e = .returned (.int .i64 z) ∧ Below w.heap.size w w') ∧ Calls Tryd.prog 30 #[.slice A n c] w (fun e w' => e = .returned (.int .i64 z) ∧ Below w.heap.size w w') := by
  have hC := h.c26 (by omega)
  have e : (Ts.map fun p => p.1.s).length = n := by simpa using h.1
  refine ⟨?_, ?_⟩
  · have := task_Pick.calls (n + 1) A c (Ts.map fun p => p.1.s) z w hC (by omega) (by unfold task_Pick.f; rw [pick_eq]; exact hz)
    rw [e] at this
    exact this
  · have := titheref12_Pick.calls (n + 1) A c (Ts.map fun p => p.1.s) z w hC (by omega) (show titheref12_Pick.f (n + 1) (Ts.map fun p => p.1.s) = some z from hz)
    rw [e] at this
    exact this

def needF (x : Jb) : Int := if x.f1 > 0 ∧ x.f1 < x.f0 then x.f1 else x.f0
def wkF : Int → List Jb → Int
  | s, [] => s
  | s, x :: r => wkF (wrap64 (s + needF x)) r
def workF (T : Tk) : Int := if T.okB = true then wkF 0 T.js else 0
theorem twork_l0 (js : List Jb) (hl : js.length ≤ 9223372036854775800) : ∀ (m i k : Nat) (s : Int), i + m = js.length → m < k → task_Work.l0 k s js (js.length : Int) (i : Int) = some (wkF s (js.drop i)) := by
  intro m
  induction m with
  | zero =>
    intro i k s hi hk
    obtain ⟨k, rfl⟩ : ∃ c, k = c + 1 := ⟨k - 1, by omega⟩
    simp only [task_Work.l0]
    rw [if_neg (by omega), List.drop_of_length_le (by omega)]
    rfl
  | succ m ih =>
    intro i k s hi hk
    obtain ⟨k, rfl⟩ : ∃ c, k = c + 1 := ⟨k - 1, by omega⟩
    have hlt : i < js.length := by omega
    have ih' := fun s => ih (i + 1) k s (by omega) (by omega)
    simp only [task_Work.l0]
    rw [if_pos (by omega), if_pos (by omega), if_pos (by omega)]
    have hd : js.drop i = js[i] :: js.drop (i + 1) := List.drop_eq_getElem_cons hlt
    rw [wrap_i (by omega), rdJ hlt, hd]
    simp only [ih', wkF, needF, mn]
    by_cases h1 : js[i].f1 > 0 <;> by_cases h2 : js[i].f1 < js[i].f0 <;> simp [h1, h2]
theorem rwork_l0 (T : Tk) (hl : T.js.length ≤ 9223372036854775800) (hok : T.okB = true) : ∀ (m i k : Nat) (s : Int), i + m = T.js.length → 2 * m + T.js.length + 5 < k → titheref12_Work.l0 k s (i : Int) T.p T.js T.g T.o T.l T.d T.c T.t = some (wkF s (T.js.drop i)) := by
  intro m
  induction m with
  | zero =>
    intro i k s hi hk
    obtain ⟨k, rfl⟩ : ∃ c, k = c + 2 := ⟨k - 2, by omega⟩
    simp only [titheref12_Work.l0, titheref12_Work.j1]
    rw [if_neg (by omega), if_neg (by simp), List.drop_of_length_le (by omega)]
    rfl
  | succ m ih =>
    intro i k s hi hk
    obtain ⟨k, rfl⟩ : ∃ c, k = c + 2 := ⟨k - 2, by omega⟩
    have hlt : i < T.js.length := by omega
    have ih' := fun s => ih (i + 1) k s (by omega) (by omega)
    have hv := rvalid_f T hl (k - 1) (by omega)
    rw [show k - 1 + 2 = k + 1 by omega, if_pos hok] at hv
    simp only [titheref12_Work.l0, titheref12_Work.j1]
    rw [if_pos (by omega), hv]
    simp only [Option.bind_some]
    rw [if_pos (show ((0 : Int) == 0) = true from rfl), if_pos (by omega), if_pos (by omega)]
    have hd : T.js.drop i = T.js[i] :: T.js.drop (i + 1) := List.drop_eq_getElem_cons hlt
    rw [wrap_i (by omega), rdJ hlt, hd]
    simp only [ih', wkF, needF]
    by_cases h1 : T.js[i].f1 > 0 <;> by_cases h2 : T.js[i].f1 < T.js[i].f0 <;> simp [h1, h2]
theorem twork_c (T : Tk) (v : Value) (w : World) (h : TR w v T.js) (hl : T.js.length ≤ 9223372036854775800) : Calls Tryd.prog 22 #[T.v v] w fun e w' => e = .returned (.int .i64 (workF T)) ∧ Below w.heap.size w w' := by
  obtain ⟨A, c, rfl, h1, h2⟩ := h
  refine task_Work.calls (T.js.length + 1 + 2) T.p A c T.js T.g T.o T.l T.d T.c T.t _ w h2 h1 ?_
  unfold task_Work.f workF
  rw [tvalid_f T hl (T.js.length + 1) (by omega)]
  cases T.okB with
  | false => simp
  | true =>
    have := twork_l0 T.js hl T.js.length 0 (T.js.length + 1 + 2) 0 (by omega) (by omega)
    simpa using this
theorem rwork_c (T : Tk) (v : Value) (w : World) (h : TR w v T.js) (hl : T.js.length ≤ 9223372036854775800) : Calls Tryd.prog 35 #[T.v v] w fun e w' => e = .returned (.int .i64 (workF T)) ∧ Below w.heap.size w w' := by
  obtain ⟨A, c, rfl, h1, h2⟩ := h
  refine titheref12_Work.calls (3 * T.js.length + 8) T.p A c T.js T.g T.o T.l T.d T.c T.t _ w h2 h1 ?_
  unfold titheref12_Work.f workF
  by_cases hk : T.okB = true
  · rw [if_pos hk]
    have := rwork_l0 T hl hk T.js.length 0 (3 * T.js.length + 8) 0 (by omega) (by omega)
    simpa using this
  · rw [if_neg hk]
    have hv := rvalid_f T hl (3 * T.js.length + 5) (by omega)
    rw [if_neg hk] at hv
    simp only [show 3 * T.js.length + 8 = (3 * T.js.length + 6) + 2 by omega, titheref12_Work.l0, titheref12_Work.j1]
    by_cases h0 : (0 : Int) < T.js.length
    · rw [if_pos h0, show 3 * T.js.length + 6 + 1 = 3 * T.js.length + 5 + 2 by omega, hv]
      rfl
    · rw [if_neg h0]
      rfl

def wtF (now : Int) : Int → Bool → List Jb → Int × Bool
  | b, q, [] => (b, q)
  | b, q, x :: r => if x.f3 > 0 then (if q = true then (if wrap64 (wrap64 (x.f2 + x.f3) - now) < b then wtF now (wrap64 (wrap64 (x.f2 + x.f3) - now)) true r else wtF now b q r) else wtF now (wrap64 (wrap64 (x.f2 + x.f3) - now)) true r) else wtF now b q r
def waitF (T : Tk) (now : Int) : Int × Bool := if T.okB = true ∧ (0 ≤ now ∧ now ≤ 1073741824) then wtF now 0 false T.js else (0, false)
theorem twait_l0 (js : List Jb) (now : Int) (hl : js.length ≤ 9223372036854775800) : ∀ (m i k : Nat) (b : Int) (q : Bool), i + m = js.length → m < k → task_Wait.l0 k now b q js (js.length : Int) (i : Int) = some (wtF now b q (js.drop i)) := by
  intro m
  induction m with
  | zero =>
    intro i k b q hi hk
    obtain ⟨k, rfl⟩ : ∃ c, k = c + 1 := ⟨k - 1, by omega⟩
    simp only [task_Wait.l0]
    rw [if_neg (by omega), List.drop_of_length_le (by omega)]
    rfl
  | succ m ih =>
    intro i k b q hi hk
    obtain ⟨k, rfl⟩ : ∃ c, k = c + 1 := ⟨k - 1, by omega⟩
    have hlt : i < js.length := by omega
    have ih' := fun b q => ih (i + 1) k b q (by omega) (by omega)
    simp only [task_Wait.l0]
    rw [if_pos (by omega), if_pos (by omega), if_pos (by omega)]
    have hd : js.drop i = js[i] :: js.drop (i + 1) := List.drop_eq_getElem_cons hlt
    rw [wrap_i (by omega), rdJ hlt, hd]
    simp only [ih', wtF]
    by_cases h3 : js[i].f3 > 0 <;> by_cases hq : q = true <;> by_cases hd : wrap64 (wrap64 (js[i].f2 + js[i].f3) - now) < b <;> simp [h3, hq, hd]
theorem rwait_l0 (T : Tk) (now : Int) (hl : T.js.length ≤ 9223372036854775800) : ∀ (m i k : Nat) (b : Int) (q : Bool), i + m = T.js.length → m < k → titheref12_Wait.l0 k now b q (i : Int) T.p T.js T.g T.o T.l T.d T.c T.t = some (wtF now b q (T.js.drop i)) := by
  intro m
  induction m with
  | zero =>
    intro i k b q hi hk
    obtain ⟨k, rfl⟩ : ∃ c, k = c + 1 := ⟨k - 1, by omega⟩
    simp only [titheref12_Wait.l0]
    rw [if_neg (by omega), List.drop_of_length_le (by omega)]
    rfl
  | succ m ih =>
    intro i k b q hi hk
    obtain ⟨k, rfl⟩ : ∃ c, k = c + 1 := ⟨k - 1, by omega⟩
    have hlt : i < T.js.length := by omega
    have ih' := fun b q => ih (i + 1) k b q (by omega) (by omega)
    simp only [titheref12_Wait.l0]
    rw [if_pos (by omega), if_pos (by omega)]
    have hd : T.js.drop i = T.js[i] :: T.js.drop (i + 1) := List.drop_eq_getElem_cons hlt
    rw [wrap_i (by omega), rdJ hlt, hd]
    simp only [ih', wtF]
    by_cases h3 : T.js[i].f3 > 0 <;> by_cases hq : q = true <;> by_cases hd : wrap64 (wrap64 (T.js[i].f2 + T.js[i].f3) - now) < b <;> simp [h3, hq, hd]
theorem twait_c (T : Tk) (v : Value) (now : Int) (w : World) (h : TR w v T.js) (hl : T.js.length ≤ 9223372036854775800) : Calls Tryd.prog 31 #[T.v v, .int .i64 now] w fun e w' => e = .returned (.tuple #[.int .i64 (waitF T now).1, .bool (waitF T now).2]) ∧ Below w.heap.size w w' := by
  obtain ⟨A, c, rfl, h1, h2⟩ := h
  refine task_Wait.calls (T.js.length + 1 + 2) T.p A c T.js T.g T.o T.l T.d T.c T.t now _ _ w h2 h1 ?_
  have := twait_l0 T.js now hl T.js.length 0 (T.js.length + 2) 0 false (by omega) (by omega)
  have this' : task_Wait.l0 (T.js.length + 1 + 1) now 0 false T.js (T.js.length : Int) 0 = some (wtF now 0 false T.js) := by simpa using this
  unfold task_Wait.f waitF
  rw [tvalid_f T hl (T.js.length + 1) (by omega)]
  simp only [is_f, Option.bind_some, task_Wait.j0, this']
  by_cases hk : T.okB = true <;> by_cases hn : 0 ≤ now ∧ now ≤ 1073741824 <;> simp [hk, hn]
theorem rwait_c (T : Tk) (v : Value) (now : Int) (w : World) (h : TR w v T.js) (hl : T.js.length ≤ 9223372036854775800) : Calls Tryd.prog 32 #[T.v v, .int .i64 now] w fun e w' => e = .returned (.tuple #[.int .i64 (waitF T now).1, .bool (waitF T now).2]) ∧ Below w.heap.size w w' := by
  obtain ⟨A, c, rfl, h1, h2⟩ := h
  refine titheref12_Wait.calls (T.js.length + 1 + 2) T.p A c T.js T.g T.o T.l T.d T.c T.t now _ _ w h2 h1 ?_
  have := rwait_l0 T now hl T.js.length 0 (T.js.length + 2) 0 false (by omega) (by omega)
  have this' : titheref12_Wait.l0 (T.js.length + 1 + 1) now 0 false 0 T.p T.js T.g T.o T.l T.d T.c T.t = some (wtF now 0 false T.js) := by simpa using this
  unfold titheref12_Wait.f waitF
  rw [rvalid_f T hl (T.js.length + 1) (by omega)]
  simp only [within_f, Option.bind_some, titheref12_Wait.j0, this']
  by_cases hk : T.okB = true <;> by_cases hn : 0 ≤ now ∧ now ≤ 1073741824 <;> simp [hk, hn]

abbrev Tk.drop (T : Tk) : Tk := ⟨T.p, [], T.g, T.o, T.l, T.d, T.c, T.t⟩
theorem tdrop_c (T : Tk) (v : Value) (w : World) (h : TR w v T.js) : Calls Tryd.prog 33 #[T.v v] w fun e w' => ∃ v1, e = .returned (.tuple #[T.drop.v v1, .int .i64 T.js.length]) ∧ TR w' v1 [] ∧ Below w.heap.size w w' := by
  obtain ⟨A, c, rfl, h1, h2⟩ := h
  refine (task_Drop.calls T.p A c T.js T.g T.o T.l T.d T.c T.t _ _ _ _ _ _ _ _ _ w h2 h1 rfl).mono ?_
  rintro e w' ⟨v1, rfl, hR, hb⟩
  exact ⟨v1, rfl, TR.of_R hR, hb⟩
theorem rdrop_c (T : Tk) (v : Value) (w : World) (h : TR w v T.js) : Calls Tryd.prog 34 #[T.v v] w fun e w' => ∃ v1, e = .returned (.tuple #[T.drop.v v1, .int .i64 T.js.length]) ∧ TR w' v1 [] ∧ Below w.heap.size w w' := by
  obtain ⟨A, c, rfl, h1, h2⟩ := h
  refine (titheref12_Drop.calls T.p A c T.js T.g T.o T.l T.d T.c T.t _ _ _ _ _ _ _ _ _ w h2 h1 rfl).mono ?_
  rintro e w' ⟨v1, rfl, hR, hb⟩
  exact ⟨v1, rfl, TR.of_R hR, hb⟩

end Go.Proofs.YtkfjlkpickeobaaDoor
