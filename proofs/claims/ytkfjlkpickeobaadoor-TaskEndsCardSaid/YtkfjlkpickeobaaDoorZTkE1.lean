/- Of the text TkE1 only what this claim needs (shake.py, this repo's). -/
import Derived.Test.YtkfjlkpickeobaaDoorZTkE0
import Derived.Test.YtkfjlkpickeobaaDoorZTkIa
set_option linter.unusedVariables false
set_option linter.unusedSimpArgs false
namespace Go.Proofs.YtkfjlkpickeobaaDoor
open Go.RowKit
open Go.Proofs.YtkfjlkpickeobaaDoor.PTaskRuns
set_option maxRecDepth 100000

/-- What holds behind m ticks of the job x. -/
def TickI (x : Jb) (R : List Jb) (fr g0 d0 c0 t0 : Int) (m : Nat) (T : Tk) (late : Int) : Prop :=
  ((m : Int) < needF x ∧ T = midT x R fr m (g0 + m) d0 c0 t0 ∧ late = t0) ∨
  ((m : Int) = needF x ∧ ∃ d1 c1 t1, T = endT R fr (g0 + m) d1 c1 t1 ∧ late = t1 ∧ d1 + c1 = d0 + c0 + 1 ∧ 0 ≤ d1 ∧ 0 ≤ c1 ∧ 0 ≤ t1 ∧ t1 ≤ d1 + c1)
/-- How late the end is. -/
def byF (x : Jb) (fr q : Int) : Int := if 0 < x.f3 ∧ 0 < q + 1 - fr - x.f3 then q + 1 - fr - x.f3 else 0
def endF (x : Jb) : Int := if 0 < x.f1 ∧ x.f1 < x.f0 then 2 else 1
theorem tick {x : Jb} {R : List Jb} {fr g0 d0 c0 t0 late q : Int} {m : Nat} {T : Tk} (hR : R.length < 8) (hx : goodJ x) (hg : ∀ y ∈ R, goodJ y) (hf : 0 ≤ fr ∧ fr ≤ 1048576)
    (hg0 : 0 ≤ g0 ∧ g0 ≤ 500) (hd : 0 ≤ d0) (hc : 0 ≤ c0) (ht : 0 ≤ t0) (hdc : d0 + c0 ≤ g0) (htd : t0 ≤ d0 + c0) (hm : (m : Int) < needF x) (hq : q = fr + g0 + m) (hT : TickI x R fr g0 d0 c0 t0 m T late) :
    ∃ T1 wh by_, runF T q = (T1, wh, by_, 0) ∧ workF T1 = workF T - 1 ∧ valF T1 = 0 ∧ (1 ≤ workF T ∧ workF T ≤ 1000) ∧ T.js.length ≤ 8 ∧ T1.js.length ≤ 8 ∧
      (((m : Int) + 1 < needF x ∧ wh = 0 ∧ by_ = 0 ∧ TickI x R fr g0 d0 c0 t0 (m + 1) T1 late) ∨
       ((m : Int) + 1 = needF x ∧ wh = endF x ∧ by_ = byF x fr q ∧ TickI x R fr g0 d0 c0 t0 (m + 1) T1 (if 0 < by_ then late + 1 else late))) := by
  obtain ⟨n1, n2, n3⟩ := need_le hx
  have hx0 := hx.1
  have hs := sumN_bd hg
  rcases hT with ⟨-, rfl, rfl⟩ | ⟨e, -⟩
  rotate_left
  · omega
  have ha : accP (midT x R fr m (g0 + m) d0 c0 late) := acc_ok (by omega) hd hc ht (by omega) htd
  have hok := midT_ok hR hx hg hf ⟨by omega, hm⟩ ha
  have hw := work_mid hok hR hx hg ⟨by omega, hm⟩
  have hjl : (midT x R fr m (g0 + m) d0 c0 late).js.length ≤ 8 := by simp; omega
  by_cases hlast : (m : Int) + 1 < needF x
  · have hr := run_mid (now := q) hok hx ⟨by omega, hlast⟩ (by omega) (by omega)
    have e1 : g0 + (m : Int) + 1 = g0 + ((m + 1 : Nat) : Int) := by omega
    have e2 : (m : Int) + 1 = ((m + 1 : Nat) : Int) := by omega
    rw [e1, e2] at hr
    have ha1 : accP (midT x R fr ((m + 1 : Nat) : Int) (g0 + ((m + 1 : Nat) : Int)) d0 c0 late) := acc_ok (by omega) hd hc ht (by omega) htd
    have hok1 := midT_ok hR hx hg hf ⟨by omega, by omega⟩ ha1
    have hw1 := work_mid hok1 hR hx hg ⟨by omega, by omega⟩
    refine ⟨_, _, _, hr, by rw [hw1, hw]; omega, by unfold valF; rw [if_pos hok1], by rw [hw]; omega, hjl, by simp; omega, .inl ⟨hlast, rfl, rfl, .inl ⟨by omega, rfl, rfl⟩⟩⟩
  · have he : (m : Int) + 1 = needF x := by omega
    have hr := run_end (now := q) hok hx ⟨by omega, he⟩ (by omega) (by omega) (L := byF x fr q) rfl
    have hb : 0 ≤ byF x fr q := by unfold byF; split <;> omega
    have e1 : g0 + (m : Int) + 1 = g0 + ((m + 1 : Nat) : Int) := by omega
    rw [e1] at hr
    have hl1 : 0 ≤ (if 0 < byF x fr q then late + 1 else late) ∧ (if 0 < byF x fr q then late + 1 else late) ≤ d0 + c0 + 1 := by split <;> omega
    have e2 : ((m + 1 : Nat) : Int) = needF x := by omega
    by_cases hc1 : 0 < x.f1 ∧ x.f1 < x.f0
    · rw [if_pos hc1] at hr
      have ha1 : accP (endT R fr (g0 + ((m + 1 : Nat) : Int)) d0 (c0 + 1) (if 0 < byF x fr q then late + 1 else late)) := acc_ok (by omega) hd (by omega) hl1.1 (by omega) (by omega)
      have hok1 := endT_ok (by omega) hg hf ha1
      have hw1 := work_end hok1 (by omega) hg
      exact ⟨_, _, _, hr, by rw [hw1, hw]; omega, by unfold valF; rw [if_pos hok1], by rw [hw]; omega, hjl, by simp; omega, .inr ⟨he, by unfold endF; rw [if_pos hc1], rfl, .inr ⟨e2, d0, c0 + 1, _, rfl, rfl, by omega, by omega, by omega, hl1.1, by omega⟩⟩⟩
    · rw [if_neg hc1] at hr
      have ha1 : accP (endT R fr (g0 + ((m + 1 : Nat) : Int)) (d0 + 1) c0 (if 0 < byF x fr q then late + 1 else late)) := acc_ok (by omega) (by omega) hc hl1.1 (by omega) (by omega)
      have hok1 := endT_ok (by omega) hg hf ha1
      have hw1 := work_end hok1 (by omega) hg
      exact ⟨_, _, _, hr, by rw [hw1, hw]; omega, by unfold valF; rw [if_pos hok1], by rw [hw]; omega, hjl, by simp; omega, .inr ⟨he, by unfold endF; rw [if_neg hc1], rfl, .inr ⟨e2, d0 + 1, c0, _, rfl, rfl, by omega, by omega, by omega, hl1.1, by omega⟩⟩⟩
/-- What holds behind some jobs. -/
def JobI (L : List Jb) (fr : Int) (k : Nat) (g late : Int) (T : Tk) : Prop :=
  ∃ d c, T = endT (L.drop k) fr g d c late ∧ d + c = k ∧ 0 ≤ d ∧ 0 ≤ c ∧ 0 ≤ late ∧ late ≤ k ∧ (k : Int) ≤ g ∧ g ≤ 60 * k
theorem job_start {L : List Jb} {fr : Int} : JobI L fr 0 0 0 (pushT L fr) := ⟨0, 0, rfl, rfl, by decide, by decide, by decide, by decide, by decide, by decide⟩
theorem job_in {L : List Jb} {fr g late : Int} {k : Nat} {T : Tk} {x : Jb} (hx : L[k]? = some x) (hgx : goodJ x) (h : JobI L fr k g late T) :
    ∃ d c, TickI x (L.drop (k + 1)) fr g d c late 0 T late ∧ d + c = k ∧ 0 ≤ d ∧ 0 ≤ c ∧ 0 ≤ late ∧ late ≤ k ∧ (k : Int) ≤ g ∧ g ≤ 60 * k := by
  obtain ⟨d, c, rfl, h1⟩ := h
  refine ⟨d, c, .inl ⟨by have := (need_le hgx).1; omega, ?_, rfl⟩, h1⟩
  obtain ⟨hk, e⟩ := List.getElem?_eq_some_iff.1 hx
  rw [List.drop_eq_getElem_cons hk, e]
  obtain ⟨a, b, cc, dd⟩ := x
  simp only [List.map_cons, midT, endT, headJ, atJ, Int.sub_zero, Int.natCast_zero, Int.add_zero]
  congr 2
  split <;> simp
theorem job_out {L : List Jb} {fr g late t0 d c : Int} {k m : Nat} {T : Tk} {x : Jb} (hx : goodJ x) (hm : (m : Int) = needF x) (h : TickI x (L.drop (k + 1)) fr g d c t0 m T late) (hdc : d + c = k) (hk : (k : Int) ≤ g) (hg : g ≤ 60 * k) :
    JobI L fr (k + 1) (g + m) late T := by
  obtain ⟨n1, n2, n3⟩ := need_le hx
  have hx0 := hx.1
  rcases h with ⟨e, -⟩ | ⟨-, d1, c1, t1, rfl, rfl, h2, h3, h4, h5, h6⟩
  · omega
  · exact ⟨d1, c1, rfl, by omega, h3, h4, h5, by omega, by omega, by omega⟩
/-- Behind the last job. -/
theorem job_end {L : List Jb} {fr g late : Int} {T : Tk} (hL : L.length ≤ 8) (hf : 0 ≤ fr ∧ fr ≤ 1048576) (h : JobI L fr L.length g late T) :
    runF T (fr + g) = (zT, 0, 0, 50) ∧ workF T = 0 ∧ T.js = [] ∧ T.g = g ∧ T.o = g ∧ T.d + T.c = L.length ∧ T.t = late ∧ T.l = 0 ∧ 0 ≤ T.d ∧ 0 ≤ T.c ∧ T.d ≤ 8 ∧ T.c ≤ 8 := by
  obtain ⟨d, c, rfl, h1, h2, h3, h4, h5, h6, h7⟩ := h
  have hj : L.drop L.length = [] := List.drop_length
  rw [hj]
  have hok : (endT [] fr g d c late).okB = true := endT_ok (by simp) (fun y hy => by simp at hy) hf (acc_ok (by omega) h2 h3 h4 (by omega) (by omega))
  refine ⟨?_, ?_, rfl, rfl, rfl, h1, rfl, rfl, h2, h3, by show d ≤ 8; omega, by show c ≤ 8; omega⟩
  · unfold runF
    rw [if_neg (by rw [hok]; decide), if_neg (by omega)]
    rfl
  · rw [work_end hok (by simp) (fun y hy => by simp at hy)]; rfl

end Go.Proofs.YtkfjlkpickeobaaDoor
