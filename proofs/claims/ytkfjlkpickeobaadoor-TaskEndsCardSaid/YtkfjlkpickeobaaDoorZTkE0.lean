/- Of the text TkE0 only what this claim needs (shake.py, this repo's). -/
import Derived.Test.YtkfjlkpickeobaaDoorZTkU0
set_option linter.unusedVariables false
set_option linter.unusedSimpArgs false
namespace Go.Proofs.YtkfjlkpickeobaaDoor
open Go.RowKit
open Go.Proofs.YtkfjlkpickeobaaDoor.PTaskRuns
set_option maxRecDepth 100000

/-- A job as the law takes it. -/
def goodJ (x : Jb) : Prop := (1 ≤ x.f0 ∧ x.f0 ≤ 60) ∧ (0 ≤ x.f1 ∧ x.f1 ≤ 1048576) ∧ (0 ≤ x.f3 ∧ x.f3 ≤ 1048576)
/-- The head job behind m ticks. -/
abbrev headJ (x : Jb) (fr m : Int) : Jb := ⟨x.f0 - m, if 0 < x.f1 then x.f1 - m else x.f1, fr, x.f3⟩
/-- The task behind the pushes. -/
abbrev pushT (L : List Jb) (fr : Int) : Tk := ⟨0, L.map (fun x => atJ x fr), 0, 0, 0, 0, 0, 0⟩
theorem good_jobP {x : Jb} {fr : Int} (h : goodJ x) (hf : 0 ≤ fr ∧ fr ≤ 1048576) : jobP (atJ x fr) := by
  obtain ⟨h0, h1, h3⟩ := h
  exact ⟨⟨h0.1, by show x.f0 ≤ 1048576; omega⟩, h1, ⟨hf.1, by show fr ≤ 1073741824; omega⟩, ⟨h3.1, by show x.f3 ≤ 1073741824; omega⟩⟩
theorem pushT_ok {L : List Jb} {fr : Int} (hL : L.length ≤ 8) (hg : ∀ x ∈ L, goodJ x) (hf : 0 ≤ fr ∧ fr ≤ 1048576) : (pushT L fr).okB = true := by
  unfold Tk.okB
  simp only [Bool.and_eq_true, decide_eq_true_eq, List.all_eq_true]
  refine ⟨⟨⟨by decide, by simpa using hL⟩, by unfold accP; simp⟩, ?_⟩
  intro y hy
  obtain ⟨x, hx, rfl⟩ := List.mem_map.1 hy
  exact decide_eq_true (good_jobP (hg x hx) hf)
theorem push_good {L : List Jb} {fr : Int} {x : Jb} (hL : L.length < 8) (hg : ∀ y ∈ L, goodJ y) (hx : goodJ x) (hf : 0 ≤ fr ∧ fr ≤ 1048576) : pushF (pushT L fr) x fr = (pushT (L ++ [x]) fr, 0) := by
  unfold pushF
  rw [if_neg (by rw [pushT_ok (by omega) hg hf]; decide), if_neg (by omega), if_neg (by rw [show jobB (atJ x fr) = true from decide_eq_true (good_jobP hx hf)]; decide), if_neg (by simp; omega)]
  simp

/-- The task in the middle of its jobs: m ticks of x are gone. -/
abbrev midT (x : Jb) (R : List Jb) (fr m g d c t : Int) : Tk := ⟨0, headJ x fr m :: R.map (fun y => atJ y fr), g, g, 0, d, c, t⟩
abbrev endT (R : List Jb) (fr g d c t : Int) : Tk := ⟨0, R.map (fun y => atJ y fr), g, g, 0, d, c, t⟩
theorem need_le {x : Jb} (h : goodJ x) : 1 ≤ needF x ∧ needF x ≤ x.f0 ∧ (0 < x.f1 → needF x ≤ x.f1) := by
  obtain ⟨h0, h1, h3⟩ := h
  unfold needF
  split <;> refine ⟨?_, ?_, ?_⟩ <;> omega
theorem head_jobP {x : Jb} {fr m : Int} (h : goodJ x) (hf : 0 ≤ fr ∧ fr ≤ 1048576) (hm : 0 ≤ m ∧ m < needF x) : jobP (headJ x fr m) := by
  obtain ⟨n1, n2, n3⟩ := need_le h
  obtain ⟨h0, h1, h3⟩ := h
  refine ⟨⟨by show 1 ≤ x.f0 - m; omega, by show x.f0 - m ≤ 1048576; omega⟩, ?_, ⟨hf.1, by show fr ≤ 1073741824; omega⟩, ⟨h3.1, by show x.f3 ≤ 1073741824; omega⟩⟩
  show 0 ≤ (if 0 < x.f1 then x.f1 - m else x.f1) ∧ (if 0 < x.f1 then x.f1 - m else x.f1) ≤ 1048576
  split
  · have := n3 (by assumption); omega
  · omega
theorem acc_ok {p g d c t : Int} {js : List Jb} (hg : 0 ≤ g ∧ g ≤ 1073741824) (hd : 0 ≤ d) (hc : 0 ≤ c) (ht : 0 ≤ t) (hdc : d + c ≤ g) (htd : t ≤ d + c) : accP ⟨p, js, g, g, 0, d, c, t⟩ := by
  unfold accP
  exact ⟨hg, rfl, rfl, hd, hc, ht, by show d ≤ g; omega, by show c ≤ g - d; omega, htd⟩
theorem midT_ok {x : Jb} {R : List Jb} {fr m g d c t : Int} (hR : R.length < 8) (hx : goodJ x) (hg : ∀ y ∈ R, goodJ y) (hf : 0 ≤ fr ∧ fr ≤ 1048576) (hm : 0 ≤ m ∧ m < needF x) (ha : accP (midT x R fr m g d c t)) : (midT x R fr m g d c t).okB = true := by
  unfold Tk.okB
  simp only [Bool.and_eq_true, decide_eq_true_eq, List.all_eq_true]
  refine ⟨⟨⟨by decide, by simp; omega⟩, ha⟩, ?_⟩
  intro y hy
  rcases List.mem_cons.1 hy with rfl | hy
  · exact decide_eq_true (head_jobP hx hf hm)
  · obtain ⟨z, hz, rfl⟩ := List.mem_map.1 hy
    exact decide_eq_true (good_jobP (hg z hz) hf)
theorem endT_ok {R : List Jb} {fr g d c t : Int} (hR : R.length ≤ 8) (hg : ∀ y ∈ R, goodJ y) (hf : 0 ≤ fr ∧ fr ≤ 1048576) (ha : accP (endT R fr g d c t)) : (endT R fr g d c t).okB = true := by
  unfold Tk.okB
  simp only [Bool.and_eq_true, decide_eq_true_eq, List.all_eq_true]
  refine ⟨⟨⟨by decide, by simpa using hR⟩, ha⟩, ?_⟩
  intro y hy
  obtain ⟨z, hz, rfl⟩ := List.mem_map.1 hy
  exact decide_eq_true (good_jobP (hg z hz) hf)
/-- A tick that does not end the job. -/
theorem run_mid {x : Jb} {R : List Jb} {fr m g d c t now : Int} (hok : (midT x R fr m g d c t).okB = true) (hx : goodJ x) (hm : 0 ≤ m ∧ m + 1 < needF x) (hn : 0 ≤ now ∧ now ≤ 1073741823) (hg : g < 1073741824) :
    runF (midT x R fr m g d c t) now = (midT x R fr (m + 1) (g + 1) d c t, 0, 0, 0) := by
  obtain ⟨n1, n2, n3⟩ := need_le hx
  unfold runF
  rw [if_neg (by rw [hok]; decide), if_neg (by omega)]
  dsimp only
  rw [if_neg (by omega), if_neg (by omega)]
  by_cases h1 : 0 < x.f1
  · have := n3 h1
    rw [if_neg (by rw [if_pos h1]; omega)]
    simp only [lessJ, headJ, h1, if_true]
    rw [if_pos (by omega), show x.f0 - m - 1 = x.f0 - (m + 1) by omega, show x.f1 - m - 1 = x.f1 - (m + 1) by omega]
    simp [midT, headJ, h1]
  · have := hx.2.1.1
    rw [if_neg (by rw [if_neg h1]; omega)]
    simp only [lessJ, headJ, h1, if_false]
    rw [show x.f0 - m - 1 = x.f0 - (m + 1) by omega]
    simp [midT, headJ, h1]
/-- The tick that ends it. -/
theorem run_end {x : Jb} {R : List Jb} {fr m g d c t now : Int} (hok : (midT x R fr m g d c t).okB = true) (hx : goodJ x) (hm : 0 ≤ m ∧ m + 1 = needF x) (hn : 0 ≤ now ∧ now ≤ 1073741823) (hg : g < 1073741824) {L : Int} (hL : L = if 0 < x.f3 ∧ 0 < now + 1 - fr - x.f3 then now + 1 - fr - x.f3 else 0) :
    runF (midT x R fr m g d c t) now = if 0 < x.f1 ∧ x.f1 < x.f0 then (endT R fr (g + 1) d (c + 1) (if 0 < L then t + 1 else t), 2, L, 0) else (endT R fr (g + 1) (d + 1) c (if 0 < L then t + 1 else t), 1, L, 0) := by
  have hLL : lateF (headJ x fr m) now = L := by rw [hL]; rfl
  have hneed : needF x = if x.f1 > 0 ∧ x.f1 < x.f0 then x.f1 else x.f0 := rfl
  unfold runF
  rw [if_neg (by rw [hok]; decide), if_neg (by omega)]
  dsimp only
  rw [if_neg (by omega), hLL]
  by_cases h1 : 0 < x.f1 ∧ x.f1 < x.f0
  · rw [if_pos h1] at hneed
    rw [if_neg (by omega), if_pos (by rw [if_pos h1.1]; omega), if_pos h1]
  · rw [if_neg h1] at hneed
    rw [if_pos (by omega), if_neg h1]

def sumN : List Jb → Int
  | [] => 0
  | x :: r => needF x + sumN r
theorem sumN_bd : ∀ {js : List Jb}, (∀ y ∈ js, goodJ y) → 0 ≤ sumN js ∧ sumN js ≤ 60 * js.length
  | [], _ => ⟨Int.le_refl _, Int.le_refl _⟩
  | x :: r, h => by
    have a := need_le (h x List.mem_cons_self)
    have a0 := (h x List.mem_cons_self).1
    have b := sumN_bd (js := r) (fun y hy => h y (List.mem_cons_of_mem _ hy))
    unfold sumN
    simp only [List.length_cons]
    omega
theorem wkF_eq : ∀ (js : List Jb) (s : Int), 0 ≤ s → s + 60 * js.length ≤ 1000000 → (∀ y ∈ js, 0 ≤ needF y ∧ needF y ≤ 60) → wkF s js = s + sumN js
  | [], s, _, _, _ => by simp [wkF, sumN]
  | x :: r, s, h0, h1, h => by
    have hx := h x List.mem_cons_self
    simp only [List.length_cons] at h1
    have e : wrap64 (s + needF x) = s + needF x := by unfold wrap64; omega
    have ih := wkF_eq r (s + needF x) (by omega) (by omega) (fun y hy => h y (List.mem_cons_of_mem _ hy))
    unfold wkF sumN
    rw [e, ih]
    omega
theorem need_at (x : Jb) (fr : Int) : needF (atJ x fr) = needF x := rfl
theorem need_head {x : Jb} {fr m : Int} (hx : goodJ x) (hm : 0 ≤ m ∧ m < needF x) : needF (headJ x fr m) = needF x - m := by
  obtain ⟨n1, n2, n3⟩ := need_le hx
  obtain ⟨N, hN⟩ : ∃ N, N = needF x := ⟨_, rfl⟩
  rw [← hN] at hm n1 n2 n3 ⊢
  have hN2 : N = if 0 < x.f1 ∧ x.f1 < x.f0 then x.f1 else x.f0 := hN
  have hH : needF (headJ x fr m) = if 0 < (if 0 < x.f1 then x.f1 - m else x.f1) ∧ (if 0 < x.f1 then x.f1 - m else x.f1) < x.f0 - m then (if 0 < x.f1 then x.f1 - m else x.f1) else x.f0 - m := rfl
  rw [hH]
  clear hN hH
  by_cases g1 : 0 < x.f1
  · simp only [if_pos g1]
    by_cases g2 : x.f1 < x.f0
    · rw [if_pos ⟨g1, g2⟩] at hN2
      rw [if_pos (by omega)]; omega
    · rw [if_neg (by omega)] at hN2
      rw [if_neg (by omega)]; omega
  · simp only [if_neg g1]
    rw [if_neg (by omega)] at hN2
    rw [if_neg (by omega)]; omega
theorem sumN_at (fr : Int) : ∀ R : List Jb, sumN (R.map fun y => atJ y fr) = sumN R
  | [] => rfl
  | x :: r => by
    have := sumN_at fr r
    simp only [List.map_cons, sumN, need_at, this]
theorem work_end {R : List Jb} {fr g d c t : Int} (hok : (endT R fr g d c t).okB = true) (hR : R.length ≤ 8) (hg : ∀ y ∈ R, goodJ y) : workF (endT R fr g d c t) = sumN R := by
  unfold workF
  rw [if_pos hok, wkF_eq _ 0 (Int.le_refl _) (by simp; omega) (fun y hy => by
    obtain ⟨z, hz, rfl⟩ := List.mem_map.1 hy
    have := need_le (hg z hz)
    have h0 := (hg z hz).1
    rw [need_at]; omega), sumN_at]
  omega
theorem work_mid {x : Jb} {R : List Jb} {fr m g d c t : Int} (hok : (midT x R fr m g d c t).okB = true) (hR : R.length < 8) (hx : goodJ x) (hg : ∀ y ∈ R, goodJ y) (hm : 0 ≤ m ∧ m < needF x) : workF (midT x R fr m g d c t) = needF x - m + sumN R := by
  have n0 := need_head (fr := fr) hx hm
  have nx := need_le hx
  have nx0 := hx.1
  unfold workF
  rw [if_pos hok, wkF_eq _ 0 (Int.le_refl _) (by simp; omega) (fun y hy => by
    rcases List.mem_cons.1 hy with rfl | hy
    · rw [n0]; omega
    · obtain ⟨z, hz, rfl⟩ := List.mem_map.1 hy
      have := need_le (hg z hz)
      have h0 := (hg z hz).1
      rw [need_at]; omega)]
  show 0 + (needF (headJ x fr m) + sumN (R.map fun y => atJ y fr)) = _
  rw [n0, sumN_at]
  omega

end Go.Proofs.YtkfjlkpickeobaaDoor
