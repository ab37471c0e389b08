/- Of the text LU0 only what this claim needs (shake.py, this repo's). -/
import Derived.Test.YtkfjlkpickeobaaZLFm
set_option linter.unusedVariables false
set_option linter.unusedSimpArgs false
namespace Go.Proofs.Ytkfjlkpickeobaa
open Go.RowKit
open Go.Proofs.Ytkfjlkpickeobaa.PLeafUrgent
set_option maxRecDepth 100000

theorem okB_of {T : Tk} (h1 : 0 ≤ T.p ∧ T.p ≤ 31) (h2 : T.js.length ≤ 8) (h3 : accP T) (h4 : ∀ x ∈ T.js, jobP x) : T.okB = true := by
  unfold Tk.okB
  simp only [Bool.and_eq_true, decide_eq_true_eq, List.all_eq_true]
  exact ⟨⟨⟨h1, h2⟩, h3⟩, fun x hx => decide_eq_true (h4 x hx)⟩
theorem pushF_ok {T T1 : Tk} {x : Jb} {now : Int} (h : pushF T x now = (T1, 0)) : T1.okB = true ∧ T1.g = T.g ∧ T1.p = T.p ∧ T1.js ≠ [] := by
  unfold pushF at h
  by_cases k1 : T.okB = false
  · rw [if_pos k1] at h; simp at h
  · rw [if_neg k1] at h
    by_cases k2 : 0 ≤ now ∧ now ≤ 1073741824
    · rw [if_neg (fun q => q k2)] at h
      by_cases k3 : jobB (atJ x now) = false
      · rw [if_pos k3] at h; simp at h
      · rw [if_neg k3] at h
        by_cases k4 : 8 ≤ T.js.length
        · rw [if_pos k4] at h; simp at h
        · rw [if_neg k4] at h
          simp only [Prod.mk.injEq, and_true] at h
          subst h
          have hk : T.okB = true := by simpa using k1
          have hp := Tk.ok_p hk
          have hac : accP T := Tk.ok_acc hk
          refine ⟨okB_of hp (by simp; omega) hac (fun y hy => ?_), rfl, rfl, by simp⟩
          rcases List.mem_append.1 hy with m | m
          · exact Tk.ok_job hk y m
          · have e : y = atJ x now := by simpa using m
            rw [e]
            have : jobB (atJ x now) = true := by simpa using k3
            simpa [jobB] using this
    · rw [if_pos k2] at h; simp at h
theorem runF_ok {T : Tk} {now : Int} (hk : T.okB = true) (hj : T.js ≠ []) (hn : 0 ≤ now ∧ now ≤ 1073741823) (hg : T.g < 1073741824) : ∃ T1 wh by_, runF T now = (T1, wh, by_, 0) ∧ T1.okB = true ∧ T1.g = T.g + 1 ∧ T1.p = T.p := by
  obtain ⟨x, r, hx⟩ : ∃ x r, T.js = x :: r := by
    cases h : T.js with
    | nil => exact absurd h hj
    | cons x r => exact ⟨x, r, rfl⟩
  have ha := Tk.ok_acc hk
  unfold accP at ha
  obtain ⟨⟨g0, g1⟩, o1, l1, d0, c0, t0, d1, c1, t1⟩ := ha
  have hl := Tk.ok_len hk
  have hp := Tk.ok_p hk
  have hjo := Tk.ok_job hk
  rw [hx] at hl hjo
  simp only [List.length_cons] at hl
  have hxj := hjo x List.mem_cons_self
  obtain ⟨⟨x0, x1⟩, ⟨x2, x3⟩, x4, x5⟩ := hxj
  rw [run_cons hk hn hx, if_neg (by omega)]
  by_cases e1 : x.f0 = 1
  · rw [if_pos e1]
    refine ⟨_, _, _, rfl, okB_of hp (by show r.length ≤ 8; omega) ?_ (fun y hy => hjo y (List.mem_cons_of_mem _ hy)), rfl, rfl⟩
    unfold accP
    dsimp only
    refine ⟨by omega, by omega, l1, by omega, c0, ?_, by omega, by omega, ?_⟩ <;> split <;> omega
  · rw [if_neg e1]
    by_cases e2 : x.f1 = 1
    · rw [if_pos e2]
      refine ⟨_, _, _, rfl, okB_of hp (by show r.length ≤ 8; omega) ?_ (fun y hy => hjo y (List.mem_cons_of_mem _ hy)), rfl, rfl⟩
      unfold accP
      dsimp only
      refine ⟨by omega, by omega, l1, by omega, by omega, ?_, by omega, by omega, ?_⟩ <;> split <;> omega
    · rw [if_neg e2]
      refine ⟨_, _, _, rfl, okB_of hp (by show (lessJ x :: r).length ≤ 8; simp; omega) ?_ (fun y hy => ?_), rfl, rfl⟩
      · unfold accP
        dsimp only
        refine ⟨by omega, by omega, l1, by omega, by omega, by omega, by omega, by omega, by omega⟩
      · rcases List.mem_cons.1 hy with rfl | hy
        · unfold jobP lessJ
          dsimp only
          refine ⟨by omega, ?_, x4, x5⟩
          split <;> omega
        · exact hjo y (List.mem_cons_of_mem _ hy)

def gx (x : Sk) : Int := if x.f1 = true then x.T.g else 0
def sumG : List Sk → Int
  | [] => 0
  | x :: r => gx x + sumG r
theorem sumG_set : ∀ (xs : List Sk) (i : Nat) (x y : Sk), xs[i]? = some x → sumG (xs.set i y) = sumG xs - gx x + gx y
  | [], i, x, y, h => by simp at h
  | z :: r, 0, x, y, h => by
    have : z = x := by simpa using h
    subst this
    simp only [List.set_cons_zero, sumG]; omega
  | z :: r, i + 1, x, y, h => by
    have := sumG_set r i x y (by simpa using h)
    simp only [List.set_cons_succ, sumG, this]; omega
def sumT (L : List (Nat × Sk)) (s : Int) : Int := L.foldl (fun s q => s + q.2.T.g) s
theorem sumT_add : ∀ (L : List (Nat × Sk)) (s : Int), sumT L s = s + sumT L 0
  | [], s => by simp [sumT]
  | q :: r, s => by
    have h1 := sumT_add r (s + q.2.T.g)
    have h2 := sumT_add r (0 + q.2.T.g)
    unfold sumT at *
    simp only [List.foldl_cons] at *
    omega
theorem sumG_tk : ∀ (xs : List Sk) (i : Nat), sumG xs = sumT (tkL i xs) 0
  | [], i => by simp [sumG, tkL, sumT]
  | x :: r, i => by
    have ih := sumG_tk r (i + 1)
    unfold sumG gx tkL
    by_cases h : x.f1 = true
    · rw [if_pos h, if_pos h, ih]
      have := sumT_add (tkL (i + 1) r) (0 + x.T.g)
      unfold sumT at *
      simp only [List.foldl_cons]
      omega
    · rw [if_neg h, if_neg h, ih]; omega

def bStep (b : Int) (q : Nat × Sk) : Int := if 0 < q.2.T.js.length ∧ (b < 0 ∨ q.2.T.p < b) then q.2.T.p else b
def RB (M : List (Nat × Sk)) (h pr b : Int) : Prop := (b = -1 ∧ h = 0 ∧ pr = 32) ∨ (0 ≤ b ∧ pr = b ∧ ∃ q ∈ M, h = mk 2 q.1 q.2.f0 ∧ q.2.T.p = b ∧ 0 < q.2.T.js.length)
theorem rb_fold : ∀ (L M : List (Nat × Sk)) (h pr b : Int), (∀ q ∈ L, 0 ≤ q.2.T.p ∧ q.2.T.p ≤ 31) → RB M h pr b → RB (M ++ L) (L.foldl rdStep (h, pr)).1 (L.foldl rdStep (h, pr)).2 (L.foldl bStep b)
  | [], M, h, pr, b, _, hr => by simpa using hr
  | q :: r, M, h, pr, b, ho, hr => by
    have hq := ho q List.mem_cons_self
    have ih := rb_fold r (M ++ [q]) (rdStep (h, pr) q).1 (rdStep (h, pr) q).2 (bStep b q) (fun q hq => ho q (List.mem_cons_of_mem _ hq)) ?_
    · rw [List.append_assoc] at ih
      exact ih
    · unfold rdStep bStep
      by_cases hj : 0 < q.2.T.js.length
      · rcases hr with ⟨rfl, rfl, rfl⟩ | ⟨h0, rfl, q', hq', h1, h2, h3⟩
        · rw [if_pos ⟨hj, by show q.2.T.p < 32; omega⟩, if_pos ⟨hj, .inl (by omega)⟩]
          exact .inr ⟨hq.1, rfl, q, List.mem_append.2 (.inr (by simp)), rfl, rfl, hj⟩
        · by_cases hp : q.2.T.p < pr
          · rw [if_pos ⟨hj, hp⟩, if_pos ⟨hj, .inr hp⟩]
            exact .inr ⟨hq.1, rfl, q, List.mem_append.2 (.inr (by simp)), rfl, rfl, hj⟩
          · rw [if_neg (fun k => hp k.2), if_neg (fun k => by rcases k.2 with k | k <;> omega)]
            exact .inr ⟨h0, rfl, q', List.mem_append.2 (.inl hq'), h1, h2, h3⟩
      · rw [if_neg (fun k => hj k.1), if_neg (fun k => hj k.1)]
        rcases hr with hr | ⟨h0, h1, q', hq', h2⟩
        · exact .inl hr
        · exact .inr ⟨h0, h1, q', List.mem_append.2 (.inl hq'), h2⟩
def bestF (xs : List Sk) : Int := (tkL 0 xs).foldl bStep (-1)
/-- What holds of the slots between two steps. -/
structure LI (xs : List Sk) (used gone : Int) (k : Nat) : Prop where
  ok : ∀ (i : Nat) (x : Sk), xs[i]? = some x → x.f1 = true → x.T.okB = true
  sum : sumG xs = used - gone
  us : 0 ≤ used ∧ used ≤ k
  go : 0 ≤ gone
theorem sumG_ge : ∀ (xs : List Sk), (∀ (i : Nat) (x : Sk), xs[i]? = some x → x.f1 = true → 0 ≤ x.T.g) → 0 ≤ sumG xs ∧ ∀ (i : Nat) (x : Sk), xs[i]? = some x → x.f1 = true → x.T.g ≤ sumG xs
  | [], _ => ⟨Int.le_refl _, fun i x h => by simp at h⟩
  | y :: r, h => by
    obtain ⟨h1, h2⟩ := sumG_ge r (fun i x hx => h (i + 1) x (by simpa using hx))
    have h0 : 0 ≤ gx y := by unfold gx; split; exact h 0 y rfl (by assumption); omega
    refine ⟨by unfold sumG; omega, fun i x hx hf => ?_⟩
    unfold sumG
    cases i with
    | zero =>
      have : y = x := by simpa using hx
      subst this
      unfold gx
      rw [if_pos hf]
      omega
    | succ i => have := h2 i x (by simpa using hx) hf; omega
theorem LI.g0 {xs : List Sk} {used gone : Int} {k : Nat} (h : LI xs used gone k) {i : Nat} {x : Sk} (hx : xs[i]? = some x) (hf : x.f1 = true) : 0 ≤ x.T.g ∧ x.T.g ≤ used - gone := by
  have hg : ∀ (i : Nat) (x : Sk), xs[i]? = some x → x.f1 = true → 0 ≤ x.T.g := fun i x hx hf => (Tk.ok_acc (h.ok i x hx hf)).1.1
  refine ⟨hg i x hx hf, ?_⟩
  rw [← h.sum]
  exact (sumG_ge xs hg).2 i x hx hf
theorem LI.set {xs : List Sk} {used gone used' gone' : Int} {k : Nat} (h : LI xs used gone k) {i : Nat} {x : Sk} (y : Sk) (hx : xs[i]? = some x) (hy : y.f1 = true → y.T.okB = true) (hs : gx y - gx x = (used' - gone') - (used - gone)) (hu : 0 ≤ used' ∧ used' ≤ (k : Int) + 1) (hgo : 0 ≤ gone') : LI (xs.set i y) used' gone' (k + 1) := by
  refine ⟨fun j z hz hf => ?_, by rw [sumG_set xs i x y hx, h.sum]; omega, by omega, hgo⟩
  rw [List.getElem?_set] at hz
  split at hz
  · split at hz
    · have : y = z := by simpa using hz
      subst this
      exact hy hf
    · simp at hz
  · exact h.ok j z hz hf
theorem LI.next {xs : List Sk} {used gone : Int} {k : Nat} (h : LI xs used gone k) : LI xs used gone (k + 1) := ⟨h.ok, h.sum, by have := h.us; omega, h.go⟩
theorem LI.start : LI (List.replicate 8 oneSk) 0 0 0 := by
  have hr : ∀ (i : Nat) (x : Sk), (List.replicate 8 oneSk)[i]? = some x → x = oneSk := by
    intro i x hx
    obtain ⟨h, e⟩ := List.getElem?_eq_some_iff.1 hx
    rw [List.getElem_replicate] at e
    exact e.symm
  refine ⟨fun i x hx hf => by rw [hr i x hx] at hf; simp at hf, rfl, by decide, by decide⟩
theorem mk_ne {i : Nat} {g : Int} (h : 1 ≤ g) : mk 2 i g ≠ 0 := by unfold mk; omega
/-- The search's end. -/
theorem LI.best {xs : List Sk} {used gone : Int} {k : Nat} (h : LI xs used gone k) (hm : TM 2 8 xs) :
    (bestF xs = -1 ∧ readyF xs = 0 ∧ SNo 2 0 xs) ∨ ∃ i x, SAt 2 (readyF xs) xs i x ∧ readyF xs ≠ 0 ∧ bestF xs = x.T.p ∧ 0 ≤ x.T.p ∧ x.T.p ≤ 31 ∧ 0 < x.T.js.length ∧ x.T.okB = true := by
  have ho : ∀ q ∈ tkL 0 xs, 0 ≤ q.2.T.p ∧ q.2.T.p ≤ 31 := by
    intro q hq
    obtain ⟨h1, h2, h3⟩ := tkL_mem xs 0 q.1 q.2 hq
    exact Tk.ok_p (h.ok q.1 q.2 (by simpa using h2) h3)
  have hr := rb_fold (tkL 0 xs) [] 0 32 (-1) ho (.inl ⟨rfl, rfl, rfl⟩)
  rcases hr with ⟨e1, e2, -⟩ | ⟨e0, e1, q, hq, e2, e3, e4⟩
  · refine .inl ⟨e1, e2, fun i x hs => ?_⟩
    exact mk_ne (hm.gen i x hs.1).1 hs.2.2
  · have hq' : (q.1, q.2) ∈ tkL 0 xs := by simpa using hq
    obtain ⟨h1, h2, h3⟩ := tkL_mem xs 0 q.1 q.2 hq'
    have h2' : xs[q.1]? = some q.2 := by simpa using h2
    have er : readyF xs = Go.Proofs.Ytkfjlkpickeobaa.mk 2 q.1 q.2.f0 := e2
    refine .inr ⟨q.1, q.2, ⟨h2', h3, er.symm⟩, by rw [er]; exact mk_ne (hm.gen q.1 q.2 h2').1, e3.symm, (ho q (by simpa using hq)).1, (ho q (by simpa using hq)).2, e4, h.ok q.1 q.2 h2' h3⟩
/-- The first slot that may be given, or none. -/
theorem free_or (xs : List Sk) : (∃ (i : Nat) (x : Sk), xs[i]? = some x ∧ FreeSk x ∧ ∀ (j : Nat) (y : Sk), j < i → xs[j]? = some y → ¬ FreeSk y) ∨ ∀ (j : Nat) (y : Sk), xs[j]? = some y → ¬ FreeSk y := by
  by_cases h : ∃ (i : Nat) (x : Sk), xs[i]? = some x ∧ FreeSk x
  · refine .inl ?_
    obtain ⟨i, hi⟩ := h
    induction i using Nat.strongRecOn with
    | _ i ih =>
      by_cases h2 : ∃ j, j < i ∧ ∃ y, xs[j]? = some y ∧ FreeSk y
      · obtain ⟨j, hj, hy⟩ := h2
        exact ih j hj hy
      · obtain ⟨x, hx, hf⟩ := hi
        exact ⟨i, x, hx, hf, fun j y hj hy hf => h2 ⟨j, hj, y, hy, hf⟩⟩
  · exact .inr (fun j y hy hf => h ⟨j, y, hy, hf⟩)

end Go.Proofs.Ytkfjlkpickeobaa
