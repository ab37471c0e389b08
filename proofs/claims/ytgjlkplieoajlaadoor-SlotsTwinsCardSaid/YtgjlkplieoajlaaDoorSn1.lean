/- Loading a table, in plain Lean: the slots that numbers, marks and things make. -/
import Derived.Test.YtgjlkplieoajlaaDoorSmC
set_option linter.unusedVariables false
set_option linter.unusedSimpArgs false
namespace Go.Proofs.YtgjlkplieoajlaaDoor
open Go.RowKit
open Go.Proofs.YtgjlkplieoajlaaDoor.PSlotsTwins

/-- How many of the first k are taken. -/
def cntT (ts : List Bool) (k : Nat) : Nat := (ts.take k).countP id
theorem cntT_zero (ts : List Bool) : cntT ts 0 = 0 := by simp [cntT]
theorem cntT_succ {ts : List Bool} {k : Nat} {b : Bool} (h : ts[k]? = some b) : cntT ts (k + 1) = cntT ts k + if b = true then 1 else 0 := by
  unfold cntT
  rw [take_snoc' ts k b h, List.countP_append]
  cases b <;> simp
theorem cntT_le (ts : List Bool) (k : Nat) : cntT ts k ≤ k := by
  unfold cntT
  have := List.countP_le_length (p := id) (l := ts.take k)
  simp only [List.length_take] at this
  omega

/-- The slot i that is laid. -/
def laidSl (gs : List Int) (ts : List Bool) (hs : List Int) (i : Nat) : Sl := ⟨gs.getD i 0, ts.getD i false, if ts.getD i false = true then hs.getD (cntT ts i) 0 else 0⟩
/-- The table when k slots are laid. -/
def loadSl (gs : List Int) (ts : List Bool) (hs : List Int) (k n : Nat) : List Sl := (List.range n).map fun i => if i < k then laidSl gs ts hs i else oneSl
theorem loadSl_len (gs : List Int) (ts : List Bool) (hs : List Int) (k n : Nat) : (loadSl gs ts hs k n).length = n := by simp [loadSl]
theorem loadSl_at {gs : List Int} {ts : List Bool} {hs : List Int} {k n i : Nat} (h : i < n) : (loadSl gs ts hs k n)[i]? = some (if i < k then laidSl gs ts hs i else oneSl) := by
  unfold loadSl
  rw [List.getElem?_map, List.getElem?_range h]
  rfl
theorem loadSl_set {gs : List Int} {ts : List Bool} {hs : List Int} {k n : Nat} (h : k < n) : (loadSl gs ts hs k n).set k (laidSl gs ts hs k) = loadSl gs ts hs (k + 1) n := by
  apply List.ext_getElem (by simp [loadSl])
  intro i h1 h2
  rw [List.getElem_set]
  simp only [loadSl, List.getElem_map, List.getElem_range]
  split
  · rename_i e; subst e; rw [if_pos (by omega)]
  · rename_i e
    by_cases hk : i < k
    · rw [if_pos hk, if_pos (by omega)]
    · rw [if_neg hk, if_neg (by omega)]
theorem loadSl_start (gs : List Int) (ts : List Bool) (hs : List Int) (n : Nat) : loadSl gs ts hs 0 n = List.replicate n oneSl := by
  apply List.ext_getElem (by simp [loadSl])
  intro i h1 h2
  simp [loadSl]

/-- May the slot i be laid? -/
def okSl (gs : List Int) (ts : List Bool) (hs : List Int) (i : Nat) : Prop :=
  1 ≤ gs.getD i 0 ∧ gs.getD i 0 ≤ (if ts.getD i false = true then 1023 else 1024) ∧ (ts.getD i false = true → cntT ts i < hs.length)
instance (gs : List Int) (ts : List Bool) (hs : List Int) (i : Nat) : Decidable (okSl gs ts hs i) := by unfold okSl; infer_instance

theorem cnt_le_of_ok {gs : List Int} {ts : List Bool} {hs : List Int} : ∀ {k : Nat}, k ≤ ts.length → (∀ i, i < k → okSl gs ts hs i) → cntT ts k ≤ hs.length
  | 0, _, _ => by rw [cntT_zero]; omega
  | k + 1, hl, h => by
    have hk : k < ts.length := by omega
    have ih := cnt_le_of_ok (k := k) (by omega) (fun i hi => h i (by omega))
    have hb : ts[k]? = some ts[k] := List.getElem?_eq_getElem hk
    rw [cntT_succ hb]
    have ho := (h k (by omega)).2.2
    have e : ts.getD k false = ts[k] := by simp [List.getD, hb]
    rw [e] at ho
    split
    · rename_i t; have := ho t; omega
    · omega

theorem Tk.load {kind : Int} {n : Nat} {gs : List Int} {ts : List Bool} {hs : List Int} (k0 : 1 ≤ kind) (k3 : kind ≤ 3) (n0 : 1 ≤ n) (n1 : n ≤ 4096) {k : Nat} (h : ∀ i, i < k → okSl gs ts hs i) : Tk kind n (loadSl gs ts hs k n) := by
  refine ⟨k0, k3, n0, n1, loadSl_len _ _ _ _ _, ?_, ?_, ?_⟩
  · intro i x hx
    have hi : i < n := by have := (List.getElem?_eq_some_iff.1 hx).1; rw [loadSl_len] at this; exact this
    rw [loadSl_at hi] at hx
    simp only [Option.some.injEq] at hx
    subst hx
    split
    · rename_i e
      have := h i e
      unfold okSl at this
      show 1 ≤ gs.getD i 0 ∧ gs.getD i 0 ≤ 1024
      have h2 := this.2.1
      refine ⟨this.1, ?_⟩
      split at h2 <;> omega
    · exact ⟨by decide, by decide⟩
  · intro i x hx hf
    have hi : i < n := by have := (List.getElem?_eq_some_iff.1 hx).1; rw [loadSl_len] at this; exact this
    rw [loadSl_at hi] at hx
    simp only [Option.some.injEq] at hx
    subst hx
    split at hf
    · rename_i e
      rw [if_pos e]
      have := (h i e).2.1
      have hf' : ts.getD i false = true := hf
      rw [if_pos hf'] at this
      exact this
    · simp [oneSl] at hf
  · intro i x hx hf
    have hi : i < n := by have := (List.getElem?_eq_some_iff.1 hx).1; rw [loadSl_len] at this; exact this
    rw [loadSl_at hi] at hx
    simp only [Option.some.injEq] at hx
    subst hx
    split at hf
    · rename_i e
      rw [if_pos e]
      have hf' : ts.getD i false = false := hf
      show (if ts.getD i false = true then hs.getD (cntT ts i) 0 else 0) = 0
      rw [hf']; rfl
    · rename_i e
      rw [if_neg e]; rfl

end Go.Proofs.YtgjlkplieoajlaaDoor
