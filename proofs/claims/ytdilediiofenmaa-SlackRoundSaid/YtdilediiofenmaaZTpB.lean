/- Of the text TpB only what this claim needs (shake.py, this repo's). -/
import Derived.Test.YtdilediiofenmaaZTmA
import Derived.Test.YtdilediiofenmaaZPSlackRunsx14
set_option linter.unusedVariables false
set_option linter.unusedSimpArgs false
namespace Go.Proofs.Ytdilediiofenmaa
open Go.RowKit
set_option maxRecDepth 100000

/-- From block B on stand these boxes; below B all is as it was in w. -/
structure BX (B : Nat) (w W : World) (L : List (Array Value × TypeId)) : Prop where
  bx : ∀ i c, L[i]? = some c → W.heap[B + i]? = some (.cells c.1 c.2 (0, 0))
  be : Below B w W
  le : B ≤ w.heap.size
theorem alloc_new (w : World) (o : Obj) : (w.alloc o).heap[w.heap.size]? = some o := by rw [← World.alloc_eq]; simp
def allocs (w : World) : List (Array Value × TypeId) → World
  | [] => w
  | c :: L => allocs (w.alloc (.cells c.1 c.2)) L
theorem BX.allocs {B : Nat} {w : World} : ∀ (L : List (Array Value × TypeId)) {W : World} {L0 : List (Array Value × TypeId)}, BX B w W L0 → W.heap.size = B + L0.length → BX B w (allocs W L) (L0 ++ L)
  | [], W, L0, h, _ => by rw [List.append_nil]; exact h
  | c :: L, W, L0, h, hs => by
    have k : BX B w (W.alloc (.cells c.1 c.2)) (L0 ++ [c]) := by
      refine ⟨?_, h.be.alloc (by omega) _, h.le⟩
      intro i d hi
      rcases Nat.lt_or_ge i L0.length with hlt | hge
      · rw [List.getElem?_append_left hlt] at hi
        rw [((Below.refl W.heap.size W).alloc (Nat.le_refl _) _).block (B + i) (by omega)]
        exact h.bx i d hi
      · rw [List.getElem?_append_right hge] at hi
        have e : i - L0.length = 0 := by
          have := (List.getElem?_eq_some_iff.1 hi).1
          simp at this; omega
        rw [e] at hi
        obtain rfl : c = d := by simpa using hi
        rw [show B + i = W.heap.size by omega]
        exact alloc_new W _
    have := BX.allocs L k (by simp; omega)
    rw [List.append_assoc] at this
    exact this
theorem BX.new (w : World) (L : List (Array Value × TypeId)) : BX w.heap.size w (Proofs.Ytdilediiofenmaa.allocs w L) L := by
  have := BX.allocs (B := w.heap.size) (w := w) L (W := w) (L0 := []) ⟨fun i c h => by simp at h, Below.refl _ w, Nat.le_refl _⟩ (by simp)
  simpa using this
section
variable {B : Nat} {w W W' : World} {L : List (Array Value × TypeId)}
theorem BX.chg (h : BX B w W L) {S : Nat → Prop} (hc : Chg S W W') (hS : ∀ k, S k → B + L.length ≤ k) : BX B w W' L :=
  ⟨fun i c hi => hc.heap (h.bx i c hi) (fun s => by have := hS _ s; have := (List.getElem?_eq_some_iff.1 hi).1; omega), h.be.trans (hc.below (Nat.le_trans h.le h.be.size) (fun k s => by have := hS k s; omega)), h.le⟩
theorem BX.call (h : BX B w W L) (hb : Below W.heap.size W W') : BX B w W' L := h.chg (Chg.ofBelow hb (fun _ => False)) (fun _ f => f.elim)
theorem BX.alloc (h : BX B w W L) (o : Obj) : BX B w (W.alloc o) L := h.call ((Below.refl _ W).alloc (Nat.le_refl _) o)
theorem BX.drewN (h : BX B w W L) (n : Nat) : BX B w (W.drewN n) L := h.call (below_drewN' (Below.refl _ W) n)
theorem BX.drew (h : BX B w W L) : BX B w W.drew L := h.call (below_drewN' (Below.refl _ W) 1)
theorem BX.lt (h : BX B w W L) {i : Nat} (hi : i < L.length) : B + i < W.heap.size := (Array.getElem?_eq_some_iff.1 (h.bx i _ (List.getElem?_eq_getElem hi))).1
theorem BX.set (h : BX B w W L) (i j : Nat) (u : Value) {c : Array Value × TypeId} (hi : L[i]? = some c) : BX B w (W.setCell ⟨B + i, j, none⟩ u) (L.set i (c.1.setIfInBounds j u, c.2)) := by
  have hlt := (List.getElem?_eq_some_iff.1 hi).1
  refine ⟨?_, h.be.setCell (p := ⟨B + i, j, none⟩) (Nat.le_add_right _ _) u, h.le⟩
  intro k d hk
  by_cases e : k = i
  · subst e
    rw [List.getElem?_set_self hlt] at hk
    obtain rfl := Option.some.inj hk
    exact heap_setCell_same W (B + k) j _ _ u (h.bx k c hi)
  · rw [List.getElem?_set_ne (fun x => e x.symm)] at hk
    rw [Below.heap_setCell W ⟨B + i, j, none⟩ u (B + k) (by show B + k ≠ B + i; omega)]
    exact h.bx k d hk
theorem BX.cell (h : BX B w W L) (i j : Nat) {c : Array Value × TypeId} {u : Value} (hi : L[i]? = some c) (hj : c.1[j]? = some u) : W.cell? ⟨B + i, j, none⟩ = some u := by
  simp [World.cell?, h.bx i c hi, hj]
theorem BX.fz (h : BX B w W L) (i j : Nat) {c : Array Value × TypeId} (hi : L[i]? = some c) : W.frozen? ⟨B + i, j, none⟩ = false := by
  simp [World.frozen?, h.bx i c hi]
theorem BX.size (h : BX B w W L) (hL : 0 < L.length) : B + L.length ≤ W.heap.size := by
  have := h.lt (i := L.length - 1) (by omega); omega
end

end Go.Proofs.Ytdilediiofenmaa

set_option linter.unusedVariables false
set_option linter.unusedSimpArgs false
namespace Go.Proofs.Ytdilediiofenmaa
open Go.RowKit
set_option maxRecDepth 100000

theorem BX.set1 {B : Nat} {w W : World} {L : List (Array Value × TypeId)} (h : BX B w W L) (i j : Nat) (u : Value) {cs cs' : Array Value} {t : TypeId} (hi : L[i]? = some (cs, t)) (hc : cs.setIfInBounds j u = cs') : BX B w (W.setCell ⟨B + i, j, none⟩ u) (L.set i (cs', t)) := by
  rw [← hc]; exact h.set i j u hi
theorem BX.set8 {B : Nat} {w W : World} {L : List (Array Value × TypeId)} (h : BX B w W L) (i : Nat) {b : Nat} (hb : b = B + i) {a0 a1 a2 a3 a4 a5 a6 a7 : Value} {t : TypeId} (hi : L[i]? = some (#[a0, a1, a2, a3, a4, a5, a6, a7], t)) (u0 u1 u2 u3 u4 u5 u6 u7 : Value) :
    BX B w ((((((((W.setCell ⟨b, 0, none⟩ u0).setCell ⟨b, 1, none⟩ u1).setCell ⟨b, 2, none⟩ u2).setCell ⟨b, 3, none⟩ u3).setCell ⟨b, 4, none⟩ u4).setCell ⟨b, 5, none⟩ u5).setCell ⟨b, 6, none⟩ u6).setCell ⟨b, 7, none⟩ u7) (L.set i (#[u0, u1, u2, u3, u4, u5, u6, u7], t)) := by
  subst hb
  have hl := (List.getElem?_eq_some_iff.1 hi).1
  have s : ∀ (L' : List (Array Value × TypeId)) (c : Array Value × TypeId), L'.length = L.length → (L'.set i c)[i]? = some c := fun L' c e => List.getElem?_set_self (by omega)
  have h0 := h.set1 i 0 u0 hi (cs' := #[u0, a1, a2, a3, a4, a5, a6, a7]) rfl
  have h1 := h0.set1 i 1 u1 (s L _ rfl) (cs' := #[u0, u1, a2, a3, a4, a5, a6, a7]) rfl
  rw [List.set_set] at h1
  have h2 := h1.set1 i 2 u2 (s L _ rfl) (cs' := #[u0, u1, u2, a3, a4, a5, a6, a7]) rfl
  rw [List.set_set] at h2
  have h3 := h2.set1 i 3 u3 (s L _ rfl) (cs' := #[u0, u1, u2, u3, a4, a5, a6, a7]) rfl
  rw [List.set_set] at h3
  have h4 := h3.set1 i 4 u4 (s L _ rfl) (cs' := #[u0, u1, u2, u3, u4, a5, a6, a7]) rfl
  rw [List.set_set] at h4
  have h5 := h4.set1 i 5 u5 (s L _ rfl) (cs' := #[u0, u1, u2, u3, u4, u5, a6, a7]) rfl
  rw [List.set_set] at h5
  have h6 := h5.set1 i 6 u6 (s L _ rfl) (cs' := #[u0, u1, u2, u3, u4, u5, u6, a7]) rfl
  rw [List.set_set] at h6
  have h7 := h6.set1 i 7 u7 (s L _ rfl) (cs' := #[u0, u1, u2, u3, u4, u5, u6, u7]) rfl
  rw [List.set_set] at h7
  exact h7
end Go.Proofs.Ytdilediiofenmaa

set_option linter.unusedVariables false
set_option linter.unusedSimpArgs false
namespace Go.Proofs.Ytdilediiofenmaa
open Go.RowKit
open Go.Proofs.YtdilediiofenmaaW.PrintWords (Kd Drawn0 Kept rd rdOf)
open Go.Proofs.Ytdilediiofenmaa.PSlackRuns
set_option maxRecDepth 100000

/-- A task: priority, jobs, account. -/
structure Tk where
  p : Int
  js : List Jb
  g : Int
  o : Int
  l : Int
  d : Int
  c : Int
  t : Int
abbrev zT : Tk := ⟨0, [], 0, 0, 0, 0, 0, 0⟩
/-- A task's value, its jobs' row given. -/
abbrev Tk.v (T : Tk) (r : Value) : Value := .agg #[.int .i64 T.p, r, .int .i64 T.g, .int .i64 T.o, .int .i64 T.l, .int .i64 T.d, .int .i64 T.c, .int .i64 T.t]
abbrev jv (x : Jb) : Value := .agg #[.int .i64 x.f0, .int .i64 x.f1, .int .i64 x.f2, .int .i64 x.f3]

def jobP (x : Jb) : Prop := (1 ≤ x.f0 ∧ x.f0 ≤ 1048576) ∧ (0 ≤ x.f1 ∧ x.f1 ≤ 1048576) ∧ (0 ≤ x.f2 ∧ x.f2 ≤ 1073741824) ∧ (0 ≤ x.f3 ∧ x.f3 ≤ 1073741824)
instance (x : Jb) : Decidable (jobP x) := by unfold jobP; infer_instance
def jobB (x : Jb) : Bool := decide (jobP x)
def accP (T : Tk) : Prop := (0 ≤ T.g ∧ T.g ≤ 1073741824) ∧ T.o = T.g ∧ T.l = 0 ∧ 0 ≤ T.d ∧ 0 ≤ T.c ∧ 0 ≤ T.t ∧ T.d ≤ T.g ∧ T.c ≤ T.g - T.d ∧ T.t ≤ T.d + T.c
instance (T : Tk) : Decidable (accP T) := by unfold accP; infer_instance
def Tk.okB (T : Tk) : Bool := decide (0 ≤ T.p ∧ T.p ≤ 31) && decide (T.js.length ≤ 8) && decide (accP T) && T.js.all jobB

def errV (n : Int) : Value := if n = 0 then .nilIface else .iface 82 (.int .i64 n)
theorem errV_0 : errV 0 = .nilIface := rfl
/-- The job as it is laid. -/
abbrev atJ (x : Jb) (now : Int) : Jb := ⟨x.f0, x.f1, now, x.f3⟩
def pushF (T : Tk) (x : Jb) (now : Int) : Tk × Int :=
  if T.okB = false then (zT, 270)
  else if ¬ (0 ≤ now ∧ now ≤ 1073741824) then (zT, 1)
  else if jobB (atJ x now) = false then (zT, 2)
  else if 8 ≤ T.js.length then (zT, 40)
  else (⟨T.p, T.js ++ [atJ x now], T.g, T.o, T.l, T.d, T.c, T.t⟩, 0)

def lateF (x : Jb) (now : Int) : Int := if 0 < x.f3 ∧ 0 < now + 1 - x.f2 - x.f3 then now + 1 - x.f2 - x.f3 else 0
def lessJ (x : Jb) : Jb := ⟨x.f0 - 1, if 0 < x.f1 then x.f1 - 1 else x.f1, x.f2, x.f3⟩
/-- A task given a tick: what it is then, what became of the job, how late it was, the error. -/
def runF (T : Tk) (now : Int) : Tk × Int × Int × Int :=
  if T.okB = false then (zT, 0, 0, 270)
  else if ¬ (0 ≤ now ∧ now ≤ 1073741823) then (zT, 0, 0, 1)
  else match T.js with
  | [] => (zT, 0, 0, 50)
  | x :: r =>
    if T.g = 1073741824 then (zT, 0, 0, 60)
    else if x.f0 = 1 then (⟨T.p, r, T.g + 1, T.o + 1, T.l, T.d + 1, T.c, if 0 < lateF x now then T.t + 1 else T.t⟩, 1, lateF x now, 0)
    else if x.f1 = 1 then (⟨T.p, r, T.g + 1, T.o + 1, T.l, T.d, T.c + 1, if 0 < lateF x now then T.t + 1 else T.t⟩, 2, lateF x now, 0)
    else (⟨T.p, lessJ x :: r, T.g + 1, T.o + 1, T.l, T.d, T.c, T.t⟩, 0, 0, 0)

theorem Tk.ok_len {T : Tk} (h : T.okB = true) : T.js.length ≤ 8 := by
  unfold Tk.okB at h; simp only [Bool.and_eq_true, decide_eq_true_eq] at h; exact h.1.1.2
theorem Tk.ok_acc {T : Tk} (h : T.okB = true) : accP T := by
  unfold Tk.okB at h; simp only [Bool.and_eq_true, decide_eq_true_eq] at h; exact h.1.2
theorem Tk.ok_job {T : Tk} (h : T.okB = true) : ∀ x ∈ T.js, jobP x := by
  unfold Tk.okB at h; simp only [Bool.and_eq_true, decide_eq_true_eq] at h
  intro x hx
  have := List.all_eq_true.1 h.2 x hx
  simpa [jobB] using this
theorem pushF_js (T : Tk) (x : Jb) (now : Int) : (pushF T x now).1.js.length ≤ 8 := by
  unfold pushF
  repeat' split
  all_goals simp
  all_goals omega
theorem runF_js {T : Tk} {now : Int} : (runF T now).1.js.length ≤ 8 := by
  unfold runF
  cases hk : T.okB with
  | false => simp
  | true =>
    have := Tk.ok_len hk
    simp only [Bool.true_eq_false, if_false]
    split
    · simp
    · cases hj : T.js with
      | nil => simp
      | cons x r =>
        rw [hj] at this
        simp only [List.length_cons] at this
        dsimp only
        split
        · simp
        · split
          · simp; omega
          · split
            · simp; omega
            · simp; omega
end Go.Proofs.Ytdilediiofenmaa

set_option linter.unusedVariables false
set_option linter.unusedSimpArgs false
namespace Go.Proofs.Ytdilediiofenmaa
open Go.RowKit
open Go.Proofs.YtdilediiofenmaaW.PrintWords (Kd Drawn0 Kept rd rdOf)
open Go.Proofs.Ytdilediiofenmaa.PSlackRuns
set_option maxRecDepth 100000

theorem is_f (a b c : Int) : task_is.f a b c = some (decide (b ≤ a ∧ a ≤ c)) := by
  unfold task_is.f
  by_cases h : a ≥ b
  · rw [if_pos h]; simp [show b ≤ a from h]
  · rw [if_neg h]; simp; omega
theorem may_f (x : Jb) : task_may.f x.f0 x.f1 x.f2 x.f3 = some (jobB x) := by
  unfold task_may.f jobB jobP
  simp only [is_f, Option.bind_some, decide_eq_true_eq]
  by_cases h1 : 1 ≤ x.f0 ∧ x.f0 ≤ 1048576 <;> by_cases h2 : 0 ≤ x.f1 ∧ x.f1 ≤ 1048576 <;> by_cases h3 : 0 ≤ x.f2 ∧ x.f2 ≤ 1073741824 <;> simp [h1, h2, h3]
theorem rdJ {js : List Jb} {i : Nat} (h : i < js.length) : rd_T32 js (i : Int) = js[i] := by
  simp [rd_T32, List.getD_eq_getElem?_getD, List.getElem?_eq_getElem h]
theorem wrap_i {i : Nat} (h : i < 9223372036854775806) : wrap64 ((i : Int) + 1) = ((i + 1 : Nat) : Int) := by unfold wrap64; omega

theorem tvalid_l0 (js : List Jb) (hl : js.length ≤ 9223372036854775800) : ∀ (m i k : Nat) (ok : Bool), i + m = js.length → m < k →
    task_Valid.l0 k ok js (js.length : Int) (i : Int) = some (if (ok && (js.drop i).all jobB) = true then none else some 270) := by
  intro m
  induction m with
  | zero =>
    intro i k ok hi hk
    obtain ⟨k, rfl⟩ : ∃ c, k = c + 1 := ⟨k - 1, by omega⟩
    simp only [task_Valid.l0]
    rw [if_neg (by omega), List.drop_of_length_le (by omega)]
    cases ok <;> simp
  | succ m ih =>
    intro i k ok hi hk
    obtain ⟨k, rfl⟩ : ∃ c, k = c + 1 := ⟨k - 1, by omega⟩
    have hlt : i < js.length := by omega
    simp only [task_Valid.l0]
    rw [if_pos (by omega), if_pos (by omega), if_pos (by omega)]
    have hd : js.drop i = js[i] :: js.drop (i + 1) := List.drop_eq_getElem_cons hlt
    rw [wrap_i (by omega), rdJ hlt, may_f, hd]
    cases ok
    · rw [if_neg (by simp), ih (i + 1) k false (by omega) (by omega)]; simp only [Bool.false_and]
    · rw [if_pos rfl]; simp only [Option.bind_some]; rw [ih (i + 1) k _ (by omega) (by omega)]; simp only [Bool.true_and, List.all_cons]

theorem tvalid_f (T : Tk) (hl : T.js.length ≤ 9223372036854775800) (k : Nat) (hk : T.js.length < k) :
    task_Valid.f (k + 2) T.p T.js T.g T.o T.l T.d T.c T.t = some (if T.okB = true then none else some 270) := by
  have L : ∀ b, task_Valid.l0 k b T.js (T.js.length : Int) 0 = some (if (b && T.js.all jobB) = true then none else some 270) := fun b => by
    have := tvalid_l0 T.js hl T.js.length 0 k b (by omega) hk
    simpa using this
  have J : ∀ b, task_Valid.j1 (k + 1) b T.p T.js T.g T.o T.l T.d T.c T.t = some (if (b && T.js.all jobB) = true then none else some 270) := fun b => by
    simp only [task_Valid.j1]; exact L b
  have J0 : ∀ b, (b = true → 0 ≤ T.g ∧ T.g ≤ 1073741824) → task_Valid.j0 (k + 2) b T.p T.js T.g T.o T.l T.d T.c T.t T.g T.o T.l T.d T.c T.t = some (if ((b && decide (0 ≤ T.d ∧ 0 ≤ T.c ∧ 0 ≤ T.t ∧ T.d ≤ T.g ∧ T.c ≤ T.g - T.d ∧ T.t ≤ T.d + T.c)) && T.js.all jobB) = true then none else some 270) := fun b hb => by
    simp only [task_Valid.j0]
    cases b with
    | false => rw [if_neg (by simp), J]; simp
    | true =>
      obtain ⟨g0, g1⟩ := hb rfl
      rw [if_pos rfl, Bool.true_and]
      by_cases h1 : T.d ≥ 0
      · rw [if_pos h1]
        by_cases h2 : T.c ≥ 0
        · rw [if_pos h2]
          by_cases h3 : T.t ≥ 0
          · rw [if_pos h3]
            by_cases h4 : T.d ≤ T.g
            · have e2 : wrap64 (T.g - T.d) = T.g - T.d := by unfold wrap64; omega
              rw [if_pos h4, e2]
              by_cases h5 : T.c ≤ T.g - T.d
              · have e1 : wrap64 (T.d + T.c) = T.d + T.c := by unfold wrap64; omega
                rw [if_pos h5, e1, J]
                have e : decide (T.t ≤ T.d + T.c) = decide (0 ≤ T.d ∧ 0 ≤ T.c ∧ 0 ≤ T.t ∧ T.d ≤ T.g ∧ T.c ≤ T.g - T.d ∧ T.t ≤ T.d + T.c) := by rw [Bool.eq_iff_iff]; simp only [decide_eq_true_eq]; omega
                rw [e]
              · rw [if_neg h5, J, decide_eq_false (by omega)]
            · rw [if_neg h4, J, decide_eq_false (by omega)]
          · rw [if_neg h3, J, decide_eq_false (by omega)]
        · rw [if_neg h2, J, decide_eq_false (by omega)]
      · rw [if_neg h1, J, decide_eq_false (by omega)]
  unfold task_Valid.f
  simp only [is_f, Option.bind_some, decide_eq_true_eq]
  unfold Tk.okB
  by_cases h1 : 0 ≤ T.p ∧ T.p ≤ 31
  · rw [if_pos h1]
    by_cases h2 : (T.js.length : Int) ≤ 8
    · rw [if_pos h2]
      by_cases h3 : 0 ≤ T.g ∧ T.g ≤ 1073741824
      · rw [if_pos h3]
        by_cases h4 : T.o = T.g
        · rw [if_pos h4, J0 _ (fun _ => h3)]
          have a1 : decide (0 ≤ T.p ∧ T.p ≤ 31) = true := decide_eq_true h1
          have a2 : decide (T.js.length ≤ 8) = true := decide_eq_true (by omega)
          have a3 : ((T.l == 0) && decide (0 ≤ T.d ∧ 0 ≤ T.c ∧ 0 ≤ T.t ∧ T.d ≤ T.g ∧ T.c ≤ T.g - T.d ∧ T.t ≤ T.d + T.c)) = decide (accP T) := by
            rw [Bool.eq_iff_iff]
            simp only [Bool.and_eq_true, decide_eq_true_eq, beq_iff_eq]
            unfold accP
            constructor
            · rintro ⟨b1, b2, b3, b4, b5, b6, b7⟩; exact ⟨h3, h4, b1, b2, b3, b4, b5, b6, b7⟩
            · rintro ⟨-, -, b1, b2, b3, b4, b5, b6, b7⟩; exact ⟨b1, b2, b3, b4, b5, b6, b7⟩
          rw [a1, a2, a3]
          simp only [Bool.true_and]
        · rw [if_neg h4, J0 _ (fun h => by cases h)]
          have a1 : decide (accP T) = false := decide_eq_false (fun h => h4 h.2.1)
          simp [a1]
      · rw [if_neg h3, J0 _ (fun h => by cases h)]
        have a1 : decide (accP T) = false := decide_eq_false (fun h => h3 h.1)
        simp [a1]
    · rw [if_neg h2, J0 _ (fun h => by cases h)]
      have a1 : decide (T.js.length ≤ 8) = false := decide_eq_false (by omega)
      simp [a1]
  · rw [if_neg h1, J0 _ (fun h => by cases h)]
    have a1 : decide (0 ≤ T.p ∧ T.p ≤ 31) = false := decide_eq_false h1
    simp [a1]

/-- A slice that reads as jobs. -/
def TR (w : World) (v : Value) (js : List Jb) : Prop := ∃ A c, v = .slice A js.length c ∧ js.length ≤ c ∧ Kd.C kJ w A js.length js
theorem TR.below {w w' : World} {v : Value} {js : List Jb} (h : TR w v js) (hb : Below w.heap.size w w') : TR w' v js := by
  obtain ⟨A, c, e, h1, h2⟩ := h
  exact ⟨A, c, e, h1, Kd.C_below h2 hb⟩
theorem TR.of_R {w : World} {v : Value} {js : List Jb} {e base : Nat} {ok : Nat → Prop} (h : kJ.R e w base ok v js) : TR w v js := Kd.R_reads h
theorem TR.nil (w : World) : TR w (.slice none 0 0) [] := ⟨none, 0, rfl, Nat.le_refl _, Kd.C_nil _ _⟩
theorem tvalid_ok (T : Tk) (v : Value) (w : World) (h : TR w v T.js) (hl : T.js.length ≤ 9223372036854775800) :
    Calls Try.prog 54 #[T.v v] w fun e w' => e = .returned (if T.okB = true then .nilIface else .iface 82 (.int .i64 270)) ∧ Below w.heap.size w w' := by
  obtain ⟨A, c, rfl, h1, h2⟩ := h
  refine (task_Valid.calls (T.js.length + 1 + 2) T.p A c T.js T.g T.o T.l T.d T.c T.t _ w h2 h1 (tvalid_f T hl (T.js.length + 1) (by omega))).mono ?_
  rintro e w' ⟨rfl, hb⟩
  exact ⟨by cases T.okB <;> rfl, hb⟩
theorem tvalid_yes (T : Tk) (v : Value) (w : World) (h : TR w v T.js) (hk : T.okB = true) :
    Calls Try.prog 54 #[T.v v] w fun e w' => e = .returned .nilIface ∧ Below w.heap.size w w' :=
  (tvalid_ok T v w h (by have := Tk.ok_len hk; omega)).mono fun e w' h => ⟨by rw [h.1, hk]; rfl, h.2⟩
theorem tvalid_no (T : Tk) (v : Value) (w : World) (h : TR w v T.js) (hl : T.js.length ≤ 9223372036854775800) (hk : T.okB = false) :
    Calls Try.prog 54 #[T.v v] w fun e w' => e = .returned (.iface 82 (.int .i64 270)) ∧ Below w.heap.size w w' :=
  (tvalid_ok T v w h hl).mono fun e w' h => ⟨by rw [h.1, hk]; rfl, h.2⟩

end Go.Proofs.Ytdilediiofenmaa

set_option linter.unusedVariables false
set_option linter.unusedSimpArgs false
namespace Go.Proofs.Ytdilediiofenmaa
open Go.RowKit
open Go.Proofs.YtdilediiofenmaaW.PrintWords (Kd Drawn0 Kept rd rdOf)
open Go.Proofs.Ytdilediiofenmaa.PSlackRuns
set_option maxRecDepth 100000

/-- The job's cells at a place of a row. -/
def JAt (w : World) (b o i : Nat) (x : Jb) : Prop :=
  w.cell? ⟨b, o + i * 4, none⟩ = some (.int .i64 x.f0) ∧ w.cell? ⟨b, o + i * 4 + 1, none⟩ = some (.int .i64 x.f1) ∧ w.cell? ⟨b, o + i * 4 + 2, none⟩ = some (.int .i64 x.f2) ∧ w.cell? ⟨b, o + i * 4 + 3, none⟩ = some (.int .i64 x.f3)
theorem JAt.below {w w' : World} {b o i : Nat} {x : Jb} (h : JAt w b o i x) (hb : Below w.heap.size w w') : JAt w' b o i x := ⟨keep hb h.1, keep hb h.2.1, keep hb h.2.2.1, keep hb h.2.2.2⟩
theorem TR.open {w : World} {v : Value} {js : List Jb} (h : TR w v js) : ∃ A c, v = .slice A js.length c ∧ js.length ≤ c ∧ ∀ i x, js[i]? = some x → ∃ b o, A = some ⟨b, o, none⟩ ∧ JAt w b o i x := by
  obtain ⟨A, c, e, h1, h2⟩ := h
  refine ⟨A, c, e, h1, ?_⟩
  intro i x hx
  have hi : i < js.length := (List.getElem?_eq_some_iff.1 hx).1
  obtain ⟨ad, e, c0, c1, c2, c3⟩ := at_T32 h2 (i : Int) (by omega) (by omega)
  rw [rdJ hi] at c0 c1 c2 c3
  have hxe : js[i] = x := by rw [List.getElem?_eq_getElem hi] at hx; exact Option.some.inj hx
  rw [hxe] at c0 c1 c2 c3
  obtain ⟨ad0, e0, d0, _, _, _⟩ := at_T32 h2 (0 : Int) (by omega) (by omega)
  obtain rfl : ad = ad0 := Option.some.inj (e.symm.trans e0)
  obtain ⟨b, o, sp⟩ := ad
  have hsp : sp = none := by simpa [Addr.add] using World.cell?_spot d0
  subst hsp
  exact ⟨b, o, e, by simpa [Go.WideShapes.add_plain] using c0, by simpa [Go.WideShapes.add_plain] using c1, by simpa [Go.WideShapes.add_plain] using c2, by simpa [Go.WideShapes.add_plain] using c3⟩

/-- The loop's word: the queue holds the first jobs; its blocks are new. -/
def QL (B : Nat) (w : World) (q : Nat) (xs : List Jb) (W : World) : Prop := ∃ S, JS W q 8 xs S ∧ (∀ k, S k → B ≤ k) ∧ Below B w W
theorem QL.be {B : Nat} {w W : World} {q : Nat} {xs : List Jb} (h : QL B w q xs W) : Below B w W := by obtain ⟨S, h1, h2, h3⟩ := h; exact h3

set_option maxHeartbeats 2000000 in
theorem queue_ok (T : Tk) (v : Value) (w : World) (h : TR w v T.js) (hl : T.js.length ≤ 8) :
    Calls Try.prog 62 #[T.v v] w fun e w' => ∃ q, e = .returned (.pointer (some ⟨q, 0, none⟩)) ∧ QL w.heap.size w q T.js w' := by
  obtain ⟨A, c, rfl, hc, ho⟩ := h.open
  obtain ⟨js, hjs⟩ : ∃ js, js = T.js := ⟨_, rfl⟩
  obtain ⟨n, hn⟩ : ∃ n, n = T.js.length := ⟨_, rfl⟩
  rw [← hn] at hl hc ⊢
  rw [← hjs] at ho hn ⊢
  have HO := Lib.hid ho
  have HN := Lib.hid hn
  clear ho hn hjs h
  obtain ⟨W0, hW0⟩ : ∃ y, y = w.alloc (.cells #[.int .i64 T.p, .slice A n c, .int .i64 T.g, .int .i64 T.o, .int .i64 T.l, .int .i64 T.d, .int .i64 T.c, .int .i64 T.t] 56) := ⟨_, rfl⟩
  have hB0 : Below w.heap.size w W0 := by rw [hW0]; exact (Below.refl _ w).alloc (Nat.le_refl _) _
  have kb : W0.cell? ⟨w.heap.size, 1, none⟩ = some (.slice A n c) := by rw [hW0]; simp
  have HW0 := Lib.hid hW0
  have HB0 := Lib.hid hB0
  have KB := Lib.hid kb
  clear hW0 hB0 kb
  go_enter Try.func62, Try.ntmps62
  go_wp2_with fail
  rw [← HW0.out]
  generalize hbw : w.heap.size = bw at *
  refine (jnew_ok 8 W0 (by omega) (by omega)).mono ?_
  rintro e w1 ⟨rfl, hN, hb⟩
  obtain ⟨q, hq⟩ : ∃ q, q = W0.heap.size := ⟨_, rfl⟩
  rw [← hq] at hN hb ⊢
  have kb := keep (by rw [← hq]; exact hb) KB.out
  have hB1 := below_call HB0.out (by rw [hbw]; exact Nat.le_refl _) (by rw [← hq]; exact hb)
  have HQ : Hid (QL bw w q [] w1) := Lib.hid ⟨fun k => k = q, ⟨⟨rfl, fun k e => by have e' : k = q := e; have := hN.lt; omega⟩, .inl ⟨rfl, hN⟩⟩, fun k e => by have e' : k = q := e; have := HB0.out.size; omega, hB1⟩
  have HBW := Lib.hid hbw
  clear hbw
  clear hN hb hq hB1
  go_wp2_with fail
  go_loopw [14] (fun i wr => ∃ k : Nat, k ≤ n ∧ i = .int .i64 k ∧ Hid (QL bw w q (js.take k) wr)) (fun i _ => n - (intOf i).toNat)
  case atStart => exact ⟨0, Nat.zero_le _, rfl, by simpa using HQ⟩
  case round =>
    clear HQ kb
    obtain ⟨k, hk, rfl, hQ⟩ := hrel
    by_cases hlt : k < n
    · obtain ⟨x, hx⟩ : ∃ x, js[k]? = some x := ⟨_, List.getElem?_eq_getElem (by have := HN.out; omega)⟩
      obtain ⟨b, o, rfl, hy⟩ := HO.out k x hx
      have HTS := Lib.hid (show js.take (k + 1) = js.take k ++ [x] by rw [List.take_add_one, hx]; rfl)
      obtain ⟨S, h1, h2, h3⟩ := hQ.out
      obtain ⟨y0, y1, y2, y3⟩ := hy.below (by rw [HBW.out]; exact h3)
      have hbb : b < wr.heap.size := by
        rcases Nat.lt_or_ge b wr.heap.size with h | h
        · exact h
        · simp [World.cell?, Array.getElem?_eq_none h] at y0
      have hxl : (js.take k).length < 8 := by simp; omega
      obtain ⟨wa, hwa⟩ : ∃ y, y = wr.alloc (.cells #[.int .i64 x.f0, .int .i64 x.f1, .int .i64 x.f2, .int .i64 x.f3] 32) := ⟨_, rfl⟩
      have xa : Below wr.heap.size wr wa := by rw [hwa]; exact (Below.refl _ wr).alloc (Nat.le_refl _) _
      have HP := Lib.hid (jpush_ok q 8 (js.take k) S x wa (h1.below xa) hxl)
      have HS := Lib.hid (show (∀ k, S k → bw ≤ k) ∧ Below bw w wa from ⟨h2, below_call h3 (by rw [← HBW.out]; exact Nat.le_refl _) xa⟩)
      have HWA := Lib.hid hwa
      clear h1 h2 h3 hQ xa hx hy hwa hxl
      go_wp2_with fail
      rw [← HWA.out]
      refine HP.out.mono ?_
      rintro e w2 ⟨rfl, hJ, hC⟩
      have HQ2 : Hid (QL bw w q (js.take (k + 1)) w2) := by
        rw [HTS.out]
        exact Lib.hid ⟨_, hJ, fun k s => s.elim (HS.out.1 k) (fun s => by have := HS.out.2.size; have := HBW.out; omega), HS.out.2.trans (hC.below (by have := HS.out.2.size; have := HBW.out; omega) (fun k s => HS.out.1 k s))⟩
      clear hJ hC
      go_wp2
      go_roundw
      case rel => exact ⟨k + 1, by omega, by go_num, HQ2⟩
      case measure => simp [intOf]; omega
    · obtain rfl : k = n := by omega
      rw [show js.take k = js by rw [HN.out, List.take_length]] at hQ
      go_wp2
      go_ret
      rw [HBW.out]
      exact ⟨q, rfl, hQ.out⟩

end Go.Proofs.Ytdilediiofenmaa

set_option linter.unusedVariables false
set_option linter.unusedSimpArgs false
namespace Go.Proofs.Ytdilediiofenmaa
open Go.RowKit
open Go.Proofs.YtdilediiofenmaaW.PrintWords (Kd Drawn0 Kept rd rdOf)
open Go.Proofs.Ytdilediiofenmaa.PSlackRuns
set_option maxRecDepth 100000

abbrev Tk.cs (T : Tk) (v : Value) : Array Value × TypeId := (#[.int .i64 T.p, v, .int .i64 T.g, .int .i64 T.o, .int .i64 T.l, .int .i64 T.d, .int .i64 T.c, .int .i64 T.t], 56)
abbrev jcs (x : Jb) : Array Value × TypeId := (#[.int .i64 x.f0, .int .i64 x.f1, .int .i64 x.f2, .int .i64 x.f3], 32)
abbrev nilS : Value := .slice none 0 0
section
variable {B : Nat} {w W W' : World} {L : List (Array Value × TypeId)}
theorem BX.t8 (h : BX B w W L) (i : Nat) {b : Nat} {T : Tk} {v : Value} (hb : b = B + i) (hi : L[i]? = some (T.cs v)) :
    W.cell? ⟨b, 0, none⟩ = some (.int .i64 T.p) ∧ W.cell? ⟨b, 1, none⟩ = some v ∧ W.cell? ⟨b, 2, none⟩ = some (.int .i64 T.g) ∧ W.cell? ⟨b, 3, none⟩ = some (.int .i64 T.o) ∧ W.cell? ⟨b, 4, none⟩ = some (.int .i64 T.l) ∧ W.cell? ⟨b, 5, none⟩ = some (.int .i64 T.d) ∧ W.cell? ⟨b, 6, none⟩ = some (.int .i64 T.c) ∧ W.cell? ⟨b, 7, none⟩ = some (.int .i64 T.t) := by
  subst hb
  exact ⟨h.cell i 0 hi rfl, h.cell i 1 hi rfl, h.cell i 2 hi rfl, h.cell i 3 hi rfl, h.cell i 4 hi rfl, h.cell i 5 hi rfl, h.cell i 6 hi rfl, h.cell i 7 hi rfl⟩
theorem BX.f8 (h : BX B w W L) (i : Nat) {b : Nat} {c : Array Value × TypeId} (hb : b = B + i) (hi : L[i]? = some c) :
    W.frozen? ⟨b, 0, none⟩ = false ∧ W.frozen? ⟨b, 1, none⟩ = false ∧ W.frozen? ⟨b, 2, none⟩ = false ∧ W.frozen? ⟨b, 3, none⟩ = false ∧ W.frozen? ⟨b, 4, none⟩ = false ∧ W.frozen? ⟨b, 5, none⟩ = false ∧ W.frozen? ⟨b, 6, none⟩ = false ∧ W.frozen? ⟨b, 7, none⟩ = false := by
  subst hb
  exact ⟨h.fz i 0 hi, h.fz i 1 hi, h.fz i 2 hi, h.fz i 3 hi, h.fz i 4 hi, h.fz i 5 hi, h.fz i 6 hi, h.fz i 7 hi⟩
theorem BX.j4 (h : BX B w W L) (i : Nat) {b : Nat} {x : Jb} (hb : b = B + i) (hi : L[i]? = some (jcs x)) :
    W.cell? ⟨b, 0, none⟩ = some (.int .i64 x.f0) ∧ W.cell? ⟨b, 1, none⟩ = some (.int .i64 x.f1) ∧ W.cell? ⟨b, 2, none⟩ = some (.int .i64 x.f2) ∧ W.cell? ⟨b, 3, none⟩ = some (.int .i64 x.f3) := by
  subst hb
  exact ⟨h.cell i 0 hi rfl, h.cell i 1 hi rfl, h.cell i 2 hi rfl, h.cell i 3 hi rfl⟩
theorem BX.f4 (h : BX B w W L) (i : Nat) {b : Nat} {c : Array Value × TypeId} (hb : b = B + i) (hi : L[i]? = some c) :
    W.frozen? ⟨b, 0, none⟩ = false ∧ W.frozen? ⟨b, 1, none⟩ = false ∧ W.frozen? ⟨b, 2, none⟩ = false ∧ W.frozen? ⟨b, 3, none⟩ = false := by
  subst hb
  exact ⟨h.fz i 0 hi, h.fz i 1 hi, h.fz i 2 hi, h.fz i 3 hi⟩
theorem below_set8 {a : World} (h : Below B a W) {b : Nat} (hb : B ≤ b) (u0 u1 u2 u3 u4 u5 u6 u7 : Value) :
    Below B a ((((((((W.setCell ⟨b, 0, none⟩ u0).setCell ⟨b, 1, none⟩ u1).setCell ⟨b, 2, none⟩ u2).setCell ⟨b, 3, none⟩ u3).setCell ⟨b, 4, none⟩ u4).setCell ⟨b, 5, none⟩ u5).setCell ⟨b, 6, none⟩ u6).setCell ⟨b, 7, none⟩ u7) :=
  (((((((h.setCell (p := ⟨b, 0, none⟩) hb u0).setCell (p := ⟨b, 1, none⟩) hb u1).setCell (p := ⟨b, 2, none⟩) hb u2).setCell (p := ⟨b, 3, none⟩) hb u3).setCell (p := ⟨b, 4, none⟩) hb u4).setCell (p := ⟨b, 5, none⟩) hb u5).setCell (p := ⟨b, 6, none⟩) hb u6).setCell (p := ⟨b, 7, none⟩) hb u7
end

theorem jpush_full (q many : Nat) (x : Jb) (w : World) (c2 : w.cell? ⟨q, 2, none⟩ = some (.int .i64 (many : Int))) (c3 : w.cell? ⟨q, 3, none⟩ = some (.int .i64 (many : Int))) (h2 : many ≤ 4096) :
    Calls Try.prog 63 #[.pointer (some ⟨q, 0, none⟩), .agg #[.int .i64 x.f0, .int .i64 x.f1, .int .i64 x.f2, .int .i64 x.f3]] w fun e w' => e = .returned (.iface 82 (.int .i64 40)) ∧ Below w.heap.size w w' := by
  have hB := (Below.refl w.heap.size w).alloc (Nat.le_refl _) (.cells #[.int .i64 x.f0, .int .i64 x.f1, .int .i64 x.f2, .int .i64 x.f3] 32)
  have HR := Lib.hid (jroom_ok q many many (w.alloc (.cells #[.int .i64 x.f0, .int .i64 x.f1, .int .i64 x.f2, .int .i64 x.f3] 32)) (keep ((Below.refl w.heap.size w).alloc (Nat.le_refl _) _) c2) (keep ((Below.refl w.heap.size w).alloc (Nat.le_refl _) _) c3) (Nat.le_refl _) h2)
  have HB := Lib.hid hB
  clear hB c2 c3
  go_enter Try.func63, Try.ntmps63
  go_wp2_with fail
  refine HR.out.mono ?_
  rintro e w1 ⟨rfl, rfl⟩
  rw [Nat.sub_self]
  go_wp2
  go_ret
  exact ⟨rfl, HB.out⟩

end Go.Proofs.Ytdilediiofenmaa

set_option linter.unusedVariables false
set_option linter.unusedSimpArgs false
namespace Go.Proofs.Ytdilediiofenmaa
open Go.RowKit
open Go.Proofs.YtdilediiofenmaaW.PrintWords (Kd Drawn0 Kept rd rdOf)
open Go.Proofs.Ytdilediiofenmaa.PSlackRuns
set_option maxRecDepth 100000

theorem is_c (a b c : Int) (r : Bool) (h : decide (b ≤ a ∧ a ≤ c) = r) (w : World) : Calls Try.prog 59 #[.int .i64 a, .int .i64 b, .int .i64 c] w fun e w' => e = .returned (.bool r) ∧ Below w.heap.size w w' :=
  (task_is.calls a b c r w (by rw [is_f, h])).mono fun e w' h => ⟨h.1, by obtain ⟨n, hn⟩ := h.2; rw [hn]; exact below_drewN' (Below.refl _ w) n⟩
theorem may_c (x : Jb) (r : Bool) (h : jobB x = r) (w : World) : Calls Try.prog 61 #[.agg #[.int .i64 x.f0, .int .i64 x.f1, .int .i64 x.f2, .int .i64 x.f3]] w fun e w' => e = .returned (.bool r) ∧ Below w.heap.size w w' :=
  task_may.calls x.f0 x.f1 x.f2 x.f3 r w (by rw [may_f, h])
set_option maxHeartbeats 2000000 in
theorem tpush_state (T : Tk) (v : Value) (x : Jb) (now : Int) (w : World) (h : TR w v T.js) (hl : T.js.length ≤ 9223372036854775800) (hk : T.okB = false) :
    Calls Try.prog 32 #[T.v v, jv x, .int .i64 now] w fun e w' => e = .returned (.tuple #[zT.v nilS, .iface 82 (.int .i64 270)]) ∧ Below w.heap.size w w' := by
  obtain ⟨W0, hW0⟩ : ∃ y, y = ((w.alloc (.cells #[.int .i64 T.p, v, .int .i64 T.g, .int .i64 T.o, .int .i64 T.l, .int .i64 T.d, .int .i64 T.c, .int .i64 T.t] 56)).alloc (.cells #[.int .i64 x.f0, .int .i64 x.f1, .int .i64 x.f2, .int .i64 x.f3] 32)).alloc (.cells #[.int .i64 0, .slice none 0 0, .int .i64 0, .int .i64 0, .int .i64 0, .int .i64 0, .int .i64 0, .int .i64 0] 56) := ⟨_, rfl⟩
  have hx : BX w.heap.size w W0 [T.cs v, jcs x, zT.cs nilS] := by rw [hW0]; exact BX.new w [T.cs v, jcs x, zT.cs nilS]
  have HX := Lib.hid hx
  have HW0 := Lib.hid hW0
  have HR := Lib.hid h
  have HK := Lib.hid hk
  clear h hx hW0 hk
  go_enter Try.func32, Try.ntmps32
  go_wp2_with fail
  rw [← HW0.out]
  generalize hbw : w.heap.size = bw at *
  refine (tvalid_no T v W0 (HR.out.below (by rw [hbw]; exact HX.out.be)) hl HK.out).mono ?_
  rintro e w1 ⟨rfl, hb⟩
  have HX1 := Lib.hid (HX.out.call hb)
  clear hb HX
  obtain ⟨r0, r1, r2, r3, r4, r5, r6, r7⟩ := HX1.out.t8 (T := zT) (b := bw + 2) 2 rfl rfl
  obtain ⟨f0, f1, f2, f3, f4, f5, f6, f7⟩ := HX1.out.f8 (b := bw + 2) 2 rfl rfl
  go_wp2
  refine bodyPost_ret (v := .tuple #[zT.v nilS, .iface 82 (.int .i64 270)]) (by simp [results, Try.results32, go_sem, r0, r1, r2, r3, r4, r5, r6, r7]) rfl ⟨rfl, ?_⟩
  rw [hbw]
  exact below_set8 HX1.out.be (by omega) _ _ _ _ _ _ _ _
set_option maxHeartbeats 2000000 in
theorem tpush_arg (T : Tk) (v : Value) (x : Jb) (now : Int) (w : World) (h : TR w v T.js) (hk : T.okB = true) (hn : decide (0 ≤ now ∧ now ≤ 1073741824) = false) :
    Calls Try.prog 32 #[T.v v, jv x, .int .i64 now] w fun e w' => e = .returned (.tuple #[zT.v nilS, .iface 82 (.int .i64 1)]) ∧ Below w.heap.size w w' := by
  have HN := Lib.hid hn
  clear hn
  obtain ⟨W0, hW0⟩ : ∃ y, y = ((w.alloc (.cells #[.int .i64 T.p, v, .int .i64 T.g, .int .i64 T.o, .int .i64 T.l, .int .i64 T.d, .int .i64 T.c, .int .i64 T.t] 56)).alloc (.cells #[.int .i64 x.f0, .int .i64 x.f1, .int .i64 x.f2, .int .i64 x.f3] 32)).alloc (.cells #[.int .i64 0, .slice none 0 0, .int .i64 0, .int .i64 0, .int .i64 0, .int .i64 0, .int .i64 0, .int .i64 0] 56) := ⟨_, rfl⟩
  have hx : BX w.heap.size w W0 [T.cs v, jcs x, zT.cs nilS] := by rw [hW0]; exact BX.new w [T.cs v, jcs x, zT.cs nilS]
  have HX := Lib.hid hx
  have HW0 := Lib.hid hW0
  have HR := Lib.hid h
  have HK := Lib.hid hk
  clear h hx hW0 hk
  go_enter Try.func32, Try.ntmps32
  go_wp2_with fail
  rw [← HW0.out]
  generalize hbw : w.heap.size = bw at *
  refine (tvalid_yes T v W0 (HR.out.below (by rw [hbw]; exact HX.out.be)) HK.out).mono ?_
  rintro e w1 ⟨rfl, hb⟩
  have HX1 := Lib.hid (HX.out.call hb)
  clear hb HX
  go_wp2_with fail
  refine (is_c now 0 1073741824 false HN.out w1).mono ?_
  rintro e w2 ⟨rfl, hb⟩
  have HX2 := Lib.hid (HX1.out.call hb)
  clear hb HX1
  obtain ⟨r0, r1, r2, r3, r4, r5, r6, r7⟩ := HX2.out.t8 (T := zT) (b := bw + 2) 2 rfl rfl
  obtain ⟨f0, f1, f2, f3, f4, f5, f6, f7⟩ := HX2.out.f8 (b := bw + 2) 2 rfl rfl
  go_wp2
  refine bodyPost_ret (v := .tuple #[zT.v nilS, .iface 82 (.int .i64 1)]) (by simp [results, Try.results32, go_sem, r0, r1, r2, r3, r4, r5, r6, r7]) rfl ⟨rfl, ?_⟩
  rw [hbw]
  exact below_set8 HX2.out.be (by omega) _ _ _ _ _ _ _ _
set_option maxHeartbeats 2000000 in
theorem tpush_range (T : Tk) (v : Value) (x : Jb) (now : Int) (w : World) (h : TR w v T.js) (hk : T.okB = true) (hn : decide (0 ≤ now ∧ now ≤ 1073741824) = true) (hm : jobB (atJ x now) = false) :
    Calls Try.prog 32 #[T.v v, jv x, .int .i64 now] w fun e w' => e = .returned (.tuple #[zT.v nilS, .iface 82 (.int .i64 2)]) ∧ Below w.heap.size w w' := by
  have HN := Lib.hid hn
  have HM := Lib.hid hm
  clear hn hm
  obtain ⟨W0, hW0⟩ : ∃ y, y = ((w.alloc (.cells #[.int .i64 T.p, v, .int .i64 T.g, .int .i64 T.o, .int .i64 T.l, .int .i64 T.d, .int .i64 T.c, .int .i64 T.t] 56)).alloc (.cells #[.int .i64 x.f0, .int .i64 x.f1, .int .i64 x.f2, .int .i64 x.f3] 32)).alloc (.cells #[.int .i64 0, .slice none 0 0, .int .i64 0, .int .i64 0, .int .i64 0, .int .i64 0, .int .i64 0, .int .i64 0] 56) := ⟨_, rfl⟩
  have hx : BX w.heap.size w W0 [T.cs v, jcs x, zT.cs nilS] := by rw [hW0]; exact BX.new w [T.cs v, jcs x, zT.cs nilS]
  have HX := Lib.hid hx
  have HW0 := Lib.hid hW0
  have HR := Lib.hid h
  have HK := Lib.hid hk
  clear h hx hW0 hk
  go_enter Try.func32, Try.ntmps32
  go_wp2_with fail
  rw [← HW0.out]
  generalize hbw : w.heap.size = bw at *
  refine (tvalid_yes T v W0 (HR.out.below (by rw [hbw]; exact HX.out.be)) HK.out).mono ?_
  rintro e w1 ⟨rfl, hb⟩
  have HX1 := Lib.hid (HX.out.call hb)
  clear hb HX
  go_wp2_with fail
  refine (is_c now 0 1073741824 true HN.out w1).mono ?_
  rintro e w2 ⟨rfl, hb⟩
  have HX2 := Lib.hid (HX1.out.call hb)
  clear hb HX1
  obtain ⟨j0, j1, j2, j3⟩ := HX2.out.j4 (x := x) (b := bw + 1) 1 rfl rfl
  obtain ⟨g0, g1, g2, g3⟩ := HX2.out.f4 (b := bw + 1) 1 rfl rfl
  go_wp2_with fail
  obtain ⟨W3, hW3⟩ : ∃ y, y = w2.setCell ⟨bw + 1, 2, none⟩ (.int .i64 now) := ⟨_, rfl⟩
  rw [← hW3]
  have HX3 : Hid (BX bw w W3 [T.cs v, jcs (atJ x now), zT.cs nilS]) := by rw [hW3]; exact Lib.hid (HX2.out.set 1 2 (.int .i64 now) (c := jcs x) rfl)
  clear hW3 j0 j1 j2 j3 g0 g1 g2 g3 HX2
  refine (may_c (atJ x now) false HM.out W3).mono ?_
  rintro e w4 ⟨rfl, hb⟩
  have HX4 := Lib.hid (HX3.out.call hb)
  clear hb HX3
  obtain ⟨r0, r1, r2, r3, r4, r5, r6, r7⟩ := HX4.out.t8 (T := zT) (b := bw + 2) 2 rfl rfl
  obtain ⟨f0, f1, f2, f3, f4, f5, f6, f7⟩ := HX4.out.f8 (b := bw + 2) 2 rfl rfl
  go_wp2
  refine bodyPost_ret (v := .tuple #[zT.v nilS, .iface 82 (.int .i64 2)]) (by simp [results, Try.results32, go_sem, r0, r1, r2, r3, r4, r5, r6, r7]) rfl ⟨rfl, ?_⟩
  rw [hbw]
  exact below_set8 HX4.out.be (by omega) _ _ _ _ _ _ _ _
set_option maxHeartbeats 2000000 in
theorem tpush_full (T : Tk) (v : Value) (x : Jb) (now : Int) (w : World) (h : TR w v T.js) (hk : T.okB = true) (hn : decide (0 ≤ now ∧ now ≤ 1073741824) = true) (hm : jobB (atJ x now) = true) (h8 : T.js.length = 8) :
    Calls Try.prog 32 #[T.v v, jv x, .int .i64 now] w fun e w' => e = .returned (.tuple #[zT.v nilS, .iface 82 (.int .i64 40)]) ∧ Below w.heap.size w w' := by
  have HN := Lib.hid hn
  have HM := Lib.hid hm
  have H8 := Lib.hid h8
  clear hn hm h8
  obtain ⟨W0, hW0⟩ : ∃ y, y = ((w.alloc (.cells #[.int .i64 T.p, v, .int .i64 T.g, .int .i64 T.o, .int .i64 T.l, .int .i64 T.d, .int .i64 T.c, .int .i64 T.t] 56)).alloc (.cells #[.int .i64 x.f0, .int .i64 x.f1, .int .i64 x.f2, .int .i64 x.f3] 32)).alloc (.cells #[.int .i64 0, .slice none 0 0, .int .i64 0, .int .i64 0, .int .i64 0, .int .i64 0, .int .i64 0, .int .i64 0] 56) := ⟨_, rfl⟩
  have hx : BX w.heap.size w W0 [T.cs v, jcs x, zT.cs nilS] := by rw [hW0]; exact BX.new w [T.cs v, jcs x, zT.cs nilS]
  have HX := Lib.hid hx
  have HW0 := Lib.hid hW0
  have HR := Lib.hid h
  have HK := Lib.hid hk
  clear h hx hW0 hk
  go_enter Try.func32, Try.ntmps32
  go_wp2_with fail
  rw [← HW0.out]
  generalize hbw : w.heap.size = bw at *
  refine (tvalid_yes T v W0 (HR.out.below (by rw [hbw]; exact HX.out.be)) HK.out).mono ?_
  rintro e w1 ⟨rfl, hb⟩
  have HX1 := Lib.hid (HX.out.call hb)
  clear hb HX
  go_wp2_with fail
  refine (is_c now 0 1073741824 true HN.out w1).mono ?_
  rintro e w2 ⟨rfl, hb⟩
  have HX2 := Lib.hid (HX1.out.call hb)
  clear hb HX1
  obtain ⟨j0, j1, j2, j3⟩ := HX2.out.j4 (x := x) (b := bw + 1) 1 rfl rfl
  obtain ⟨g0, g1, g2, g3⟩ := HX2.out.f4 (b := bw + 1) 1 rfl rfl
  go_wp2_with fail
  obtain ⟨W3, hW3⟩ : ∃ y, y = w2.setCell ⟨bw + 1, 2, none⟩ (.int .i64 now) := ⟨_, rfl⟩
  rw [← hW3]
  have HX3 : Hid (BX bw w W3 [T.cs v, jcs (atJ x now), zT.cs nilS]) := by rw [hW3]; exact Lib.hid (HX2.out.set 1 2 (.int .i64 now) (c := jcs x) rfl)
  clear hW3 j0 j1 j2 j3 g0 g1 g2 g3 HX2
  refine (may_c (atJ x now) true HM.out W3).mono ?_
  rintro e w4 ⟨rfl, hb⟩
  have HX4 := Lib.hid (HX3.out.call hb)
  clear hb HX3
  obtain ⟨t0, t1, t2, t3, t4, t5, t6, t7⟩ := HX4.out.t8 (T := T) (b := bw) 0 rfl rfl
  have hsz4 := HX4.out.size (by simp)
  go_wp2_with fail
  refine (queue_ok T v w4 (HR.out.below (by rw [hbw]; exact HX4.out.be)) (Tk.ok_len HK.out)).mono ?_
  rintro e w5 ⟨q, rfl, hQ⟩
  obtain ⟨S, hJ, hS, hb⟩ := hQ
  have HX5 := Lib.hid (HX4.out.call hb)
  clear hb t0 t1 t2 t3 t4 t5 t6 t7 HX4
  have hsz5 : bw + 3 ≤ w4.heap.size := hsz4
  have HS := Lib.hid (show ∀ k, S k → bw + 3 ≤ k from fun k s => Nat.le_trans hsz5 (hS k s))
  obtain ⟨j0, j1, j2, j3⟩ := HX5.out.j4 (x := atJ x now) (b := bw + 1) 1 rfl rfl
  have HP := Lib.hid (jpush_full q 8 (atJ x now) w5 (by have := hJ.c2; rw [H8.out] at this; exact this) hJ.c3 (by omega))
  clear hS hJ hsz4 hsz5
  go_wp2_with fail
  refine HP.out.mono ?_
  rintro e w6 ⟨rfl, hb⟩
  have HX6 := Lib.hid (HX5.out.call hb)
  clear hb HX5 j0 j1 j2 j3 HP
  obtain ⟨r0, r1, r2, r3, r4, r5, r6, r7⟩ := HX6.out.t8 (T := zT) (b := bw + 2) 2 rfl rfl
  obtain ⟨f0, f1, f2, f3, f4, f5, f6, f7⟩ := HX6.out.f8 (b := bw + 2) 2 rfl rfl
  go_wp2
  refine bodyPost_ret (v := .tuple #[zT.v nilS, .iface 82 (.int .i64 40)]) (by simp [results, Try.results32, go_sem, r0, r1, r2, r3, r4, r5, r6, r7]) rfl ⟨rfl, ?_⟩
  rw [hbw]
  exact below_set8 HX6.out.be (by omega) _ _ _ _ _ _ _ _
set_option maxHeartbeats 2000000 in
theorem tpush_ok (T : Tk) (v : Value) (x : Jb) (now : Int) (w : World) (h : TR w v T.js) (hk : T.okB = true) (hn : decide (0 ≤ now ∧ now ≤ 1073741824) = true) (hm : jobB (atJ x now) = true) (h8 : T.js.length < 8) :
    Calls Try.prog 32 #[T.v v, jv x, .int .i64 now] w fun e w' => ∃ v', e = .returned (.tuple #[Tk.v ⟨T.p, T.js ++ [atJ x now], T.g, T.o, T.l, T.d, T.c, T.t⟩ v', .nilIface]) ∧ kJ.R 32 w' w.heap.size (fun _ => True) v' (T.js ++ [atJ x now]) ∧ Below w.heap.size w w' := by
  have HN := Lib.hid hn
  have HM := Lib.hid hm
  have H8 := Lib.hid h8
  clear hn hm h8
  obtain ⟨W0, hW0⟩ : ∃ y, y = ((w.alloc (.cells #[.int .i64 T.p, v, .int .i64 T.g, .int .i64 T.o, .int .i64 T.l, .int .i64 T.d, .int .i64 T.c, .int .i64 T.t] 56)).alloc (.cells #[.int .i64 x.f0, .int .i64 x.f1, .int .i64 x.f2, .int .i64 x.f3] 32)).alloc (.cells #[.int .i64 0, .slice none 0 0, .int .i64 0, .int .i64 0, .int .i64 0, .int .i64 0, .int .i64 0, .int .i64 0] 56) := ⟨_, rfl⟩
  have hx : BX w.heap.size w W0 [T.cs v, jcs x, zT.cs nilS] := by rw [hW0]; exact BX.new w [T.cs v, jcs x, zT.cs nilS]
  have HX := Lib.hid hx
  have HW0 := Lib.hid hW0
  have HR := Lib.hid h
  have HK := Lib.hid hk
  clear h hx hW0 hk
  go_enter Try.func32, Try.ntmps32
  go_wp2_with fail
  rw [← HW0.out]
  generalize hbw : w.heap.size = bw at *
  refine (tvalid_yes T v W0 (HR.out.below (by rw [hbw]; exact HX.out.be)) HK.out).mono ?_
  rintro e w1 ⟨rfl, hb⟩
  have HX1 := Lib.hid (HX.out.call hb)
  clear hb HX
  go_wp2_with fail
  refine (is_c now 0 1073741824 true HN.out w1).mono ?_
  rintro e w2 ⟨rfl, hb⟩
  have HX2 := Lib.hid (HX1.out.call hb)
  clear hb HX1
  obtain ⟨j0, j1, j2, j3⟩ := HX2.out.j4 (x := x) (b := bw + 1) 1 rfl rfl
  obtain ⟨g0, g1, g2, g3⟩ := HX2.out.f4 (b := bw + 1) 1 rfl rfl
  go_wp2_with fail
  obtain ⟨W3, hW3⟩ : ∃ y, y = w2.setCell ⟨bw + 1, 2, none⟩ (.int .i64 now) := ⟨_, rfl⟩
  rw [← hW3]
  have HX3 : Hid (BX bw w W3 [T.cs v, jcs (atJ x now), zT.cs nilS]) := by rw [hW3]; exact Lib.hid (HX2.out.set 1 2 (.int .i64 now) (c := jcs x) rfl)
  clear hW3 j0 j1 j2 j3 g0 g1 g2 g3 HX2
  refine (may_c (atJ x now) true HM.out W3).mono ?_
  rintro e w4 ⟨rfl, hb⟩
  have HX4 := Lib.hid (HX3.out.call hb)
  clear hb HX3
  obtain ⟨t0, t1, t2, t3, t4, t5, t6, t7⟩ := HX4.out.t8 (T := T) (b := bw) 0 rfl rfl
  have hsz4 := HX4.out.size (by simp)
  go_wp2_with fail
  refine (queue_ok T v w4 (HR.out.below (by rw [hbw]; exact HX4.out.be)) (Tk.ok_len HK.out)).mono ?_
  rintro e w5 ⟨q, rfl, hQ⟩
  obtain ⟨S, hJ, hS, hb⟩ := hQ
  have HX5 := Lib.hid (HX4.out.call hb)
  clear hb t0 t1 t2 t3 t4 t5 t6 t7 HX4
  have hsz5 : bw + 3 ≤ w4.heap.size := hsz4
  have HS := Lib.hid (show ∀ k, S k → bw + 3 ≤ k from fun k s => Nat.le_trans hsz5 (hS k s))
  obtain ⟨j0, j1, j2, j3⟩ := HX5.out.j4 (x := atJ x now) (b := bw + 1) 1 rfl rfl
  have HP := Lib.hid (jpush_ok q 8 T.js S (atJ x now) w5 hJ H8.out)
  clear hS hJ hsz4 hsz5
  go_wp2_with fail
  refine HP.out.mono ?_
  rintro e w6 ⟨rfl, hJ6, hC6⟩
  have HX6 := Lib.hid (HX5.out.chg hC6 HS.out)
  have HL := Lib.hid hJ6.list
  clear hC6 hJ6 HX5 j0 j1 j2 j3 HP
  go_wp2_with fail
  refine HL.out.mono ?_
  rintro e w7 ⟨v', rfl, hR, hb⟩
  obtain ⟨A7, c7, rfl⟩ := Kd.R_slice hR
  have hx7 := HX6.out.call hb
  have hR2 := Kd.R_lower hR (base' := bw) (by have := HX6.out.size (by simp); omega)
  have hR3 : kJ.R 32 w7 bw (fun k => bw + 3 ≤ k) (.slice A7 (T.js ++ [atJ x now]).length c7) (T.js ++ [atJ x now]) := by
    have := Kd.R_lower hR (base' := bw + 3) (HX6.out.size (by simp))
    have k := Kd.R_mono (Kd.R_bound this) (ok' := fun k => bw + 3 ≤ k) (fun k hk => hk.2.1)
    exact Kd.R_lower k (by omega)
  have HR7 := Lib.hid hR3
  obtain ⟨t0, t1, t2, t3, t4, t5, t6, t7⟩ := hx7.t8 (T := T) (b := bw) 0 rfl rfl
  obtain ⟨u0, u1, u2, u3, u4, u5, u6, u7⟩ := hx7.f8 (b := bw) 0 rfl rfl
  obtain ⟨r0, r1, r2, r3, r4, r5, r6, r7⟩ := hx7.t8 (T := zT) (b := bw + 2) 2 rfl rfl
  obtain ⟨f0, f1, f2, f3, f4, f5, f6, f7⟩ := hx7.f8 (b := bw + 2) 2 rfl rfl
  have HX7 := Lib.hid hx7
  clear hb hR hR2 hR3 hx7 HL HX6
  go_wp2
  refine bodyPost_ret (v := .tuple #[Tk.v ⟨T.p, T.js ++ [atJ x now], T.g, T.o, T.l, T.d, T.c, T.t⟩ (.slice A7 (T.js ++ [atJ x now]).length c7), .nilIface]) (by simp [results, Try.results32, go_sem, r0, r1, r2, r3, r4, r5, r6, r7]) rfl ⟨_, rfl, ?_, ?_⟩
  · rw [hbw]
    refine Kd.R_mono (Kd.R_step HR7.out (fun k hk hlt => ?_)) (fun _ _ => trivial)
    have hk' : bw + 3 ≤ k := hk
    have n1 : k ≠ bw := by omega
    have n2 : k ≠ bw + 1 + 1 := by omega
    rw [Below.heap_setCell _ _ _ _ n2, Below.heap_setCell _ _ _ _ n2, Below.heap_setCell _ _ _ _ n2, Below.heap_setCell _ _ _ _ n2, Below.heap_setCell _ _ _ _ n2, Below.heap_setCell _ _ _ _ n2, Below.heap_setCell _ _ _ _ n2, Below.heap_setCell _ _ _ _ n2, Below.heap_setCell _ _ _ _ n1]
  · rw [hbw]
    exact below_set8 (HX7.out.be.setCell (p := ⟨bw, 1, none⟩) (Nat.le_refl _) _) (by omega) _ _ _ _ _ _ _ _

end Go.Proofs.Ytdilediiofenmaa

set_option linter.unusedVariables false
set_option linter.unusedSimpArgs false
namespace Go.Proofs.Ytdilediiofenmaa
open Go.RowKit
open Go.Proofs.YtdilediiofenmaaW.PrintWords (Kd Drawn0 Kept rd rdOf)
open Go.Proofs.Ytdilediiofenmaa.PSlackRuns
set_option maxRecDepth 100000

theorem jl_cons (rs : List Jb) (n f m : Nat) : jl rs n f (m + 1) = rs.getD (f % n) zJ :: jl rs n ((f + 1) % n) m := by
  unfold jl
  rw [List.range_succ_eq_map, List.map_cons, List.map_map]
  congr 1
  apply List.map_congr_left
  intro j _
  show rs.getD ((f + (j + 1)) % n) zJ = rs.getD (((f + 1) % n + j) % n) zJ
  rw [Nat.mod_add_mod]
  congr 2
  omega
theorem jl_set0 (rs : List Jb) (n m : Nat) (y : Jb) (hl : rs.length = n) (hm : m + 1 ≤ n) : jl (rs.set 0 y) n (1 % n) m = jl rs n (1 % n) m := by
  unfold jl
  apply List.map_congr_left
  intro j hj
  have hj' : j < m := by simpa using hj
  have e : (1 % n + j) % n = 1 + j := by rw [Nat.mod_add_mod]; exact Nat.mod_eq_of_lt (by omega)
  rw [e, List.getD_eq_getElem?_getD, List.getD_eq_getElem?_getD, List.getElem?_set_ne (by omega)]
/-- The head of the ring is the row's first; behind Put the rest stays; behind Pop the rest is left. -/
theorem ring_head {rs xs : List Jb} {n : Nat} {x : Jb} {r : List Jb} (hl : rs.length = n) (h : jl rs n 0 (x :: r).length = x :: r) (hm : (x :: r).length ≤ n) :
    rs[0]? = some x ∧ (∀ y, jl (rs.set 0 y) n 0 (r.length + 1) = y :: r) ∧ (∀ y z, jl ((rs.set 0 y).set 0 z) n ((0 + 1) % n) (r.length + 1 - 1) = r) := by
  have hn : 0 < n := by simp at hm; omega
  rw [List.length_cons, jl_cons, Nat.zero_mod] at h
  obtain ⟨h1, h2⟩ := List.cons.inj h
  have h0 : rs[0]? = some x := by
    rw [List.getD_eq_getElem?_getD, List.getElem?_eq_getElem (by omega)] at h1
    rw [List.getElem?_eq_getElem (by omega)]
    simpa using h1
  refine ⟨h0, ?_, ?_⟩
  · intro y
    rw [jl_cons, Nat.zero_mod]
    congr 1
    · rw [List.getD_eq_getElem?_getD, List.getElem?_set_self (by omega)]; rfl
    · rw [Nat.zero_add, jl_set0 rs n r.length y hl (by simpa using hm)]
      rw [Nat.zero_add] at h2
      exact h2
  · intro y z
    rw [List.set_set, Nat.zero_add, Nat.add_sub_cancel, jl_set0 rs n r.length z hl (by simpa using hm)]
    rw [Nat.zero_add] at h2
    exact h2
theorem JS.ring {w : World} {q lim : Nat} {x : Jb} {r : List Jb} {S : Nat → Prop} (h : JS w q lim (x :: r) S) : ∃ g n cap rs, JQ w q g n cap 0 (r.length + 1) lim rs ∧ S q ∧ S g ∧ (∀ k, S k → k < w.heap.size) ∧ rs[0]? = some x ∧ (∀ y, jl (rs.set 0 y) n 0 (r.length + 1) = y :: r) ∧ (∀ y z, jl ((rs.set 0 y).set 0 z) n ((0 + 1) % n) (r.length + 1 - 1) = r) := by
  obtain ⟨⟨hq, hS⟩, ⟨e, h1⟩ | ⟨g, n, cap, rs, h1, h2, h3⟩⟩ := h
  · cases e
  · obtain ⟨k1, k2, k3⟩ := ring_head (xs := []) h1.len h2 h1.many_le
    exact ⟨g, n, cap, rs, h1, hq, h3, hS, k1, k2, k3⟩

end Go.Proofs.Ytdilediiofenmaa
