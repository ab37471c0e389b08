/- titheref12.Run, every way in one. -/
import Derived.Test.YtkfjlkpickeobaaDoorTkx1
import Derived.Test.YtkfjlkpickeobaaDoorTkx2
import Derived.Test.YtkfjlkpickeobaaDoorTkx3
import Derived.Test.YtkfjlkpickeobaaDoorTkx4
set_option linter.unusedVariables false
set_option linter.unusedSimpArgs false
namespace Go.Proofs.YtkfjlkpickeobaaDoor
open Go.RowKit
open Go.Proofs.YtkfjlkpickeobaaDoorW.PrintWords (Kd Drawn0 Kept rd rdOf)
open Go.Proofs.YtkfjlkpickeobaaDoor.PTaskRuns
set_option maxRecDepth 100000

/-- What the reference's Run leaves. -/
def RRunPost (T : Tk) (now : Int) (w : World) (e : Ending) (w' : World) : Prop := ∃ v', e = .returned (.tuple #[(runF T now).1.v v', .int .i64 (runF T now).2.1, .int .i64 (runF T now).2.2.1, .int .i64 (runF T now).2.2.2]) ∧ TR w' v' (runF T now).1.js ∧ Below w.heap.size w w'
theorem rrun_any (T : Tk) (v : Value) (now : Int) (w : World) (h : TR w v T.js) (hl : T.js.length ≤ 9223372036854775800) :
    Calls Tryd.prog 17 #[T.v v, .int .i64 now] w (RRunPost T now w) := by
  unfold RRunPost
  cases hk : T.okB with
  | false =>
    have e : runF T now = (zT, 0, 0, 270) := by simp [runF, hk]
    rw [e]
    exact (rrun_state T v now w h hl hk).mono fun e w' h => ⟨nilS, h.1, TR.nil _, h.2⟩
  | true =>
    by_cases hn : 0 ≤ now ∧ now ≤ 1073741823
    · have g1 : decide (now < 0) = false := decide_eq_false (by omega)
      have g2 : decide (1073741824 ≤ now) = false := decide_eq_false (by omega)
      cases hx : T.js with
      | nil =>
        have e : runF T now = (zT, 0, 0, 50) := by unfold runF; rw [if_neg (by simp [hk]), if_neg (by simp [hn]), hx]
        rw [e]
        exact (rrun_none T v now w (hx ▸ h) hk g1 g2 (by rw [hx]; rfl)).mono fun e w' h => ⟨nilS, h.1, TR.nil _, h.2⟩
      | cons x r =>
        have h : TR w v T.js := h
        have hj : decide (0 < T.js.length) = true := by rw [hx]; simp
        rw [run_cons hk hn hx]
        by_cases hg : T.g = 1073741824
        · rw [if_pos hg]
          exact (rrun_time T v now w h hk g1 g2 hj (by simpa using hg)).mono fun e w' h => ⟨nilS, h.1, TR.nil _, h.2⟩
        · rw [if_neg hg]
          have hg' : (T.g == 1073741824) = false := by simpa using hg
          obtain ⟨⟨b1, b2⟩, bo, bl, d1, c1, t1, dg, cg, tg⟩ := Tk.ok_acc hk
          obtain ⟨⟨x0, x0'⟩, ⟨x1, x1'⟩, ⟨x2, x2'⟩, ⟨x3, x3'⟩⟩ := Tk.ok_job hk x (by rw [hx]; exact List.mem_cons_self)
          have f0n : ∀ {z : Int}, z ≠ 1 → ((z - 1) == 0) = false := fun h => by simp; omega
          by_cases h0 : x.f0 = 1
          · rw [if_pos h0]
            have e0 : ((x.f0 - 1) == 0) = true := by simp; omega
            by_cases h3 : 0 < x.f3
            · by_cases h4 : 0 < now + 1 - x.f2 - x.f3
              · rw [late_yes h3 h4, if_pos h4]
                by_cases h1' : 0 < x.f1
                · exact rrun_d1l T v now w h x r hx hk g1 g2 hj hg' b1 b2 (by omega) (by omega) d1 (by omega) c1 (by omega) t1 (by omega) hn.1 hn.2 x0 x0' x1 x1' x2 x2' x3 x3' (decide_eq_true h1') _ rfl e0 _ rfl (decide_eq_true h3) _ rfl (decide_eq_true h4)
                · exact rrun_d0l T v now w h x r hx hk g1 g2 hj hg' b1 b2 (by omega) (by omega) d1 (by omega) c1 (by omega) t1 (by omega) hn.1 hn.2 x0 x0' x1 x1' x2 x2' x3 x3' (decide_eq_false h1') _ rfl e0 _ rfl (decide_eq_true h3) _ rfl (decide_eq_true h4)
              · rw [late_no (fun h => h4 h.2), if_neg (by omega)]
                by_cases h1' : 0 < x.f1
                · exact rrun_d1i T v now w h x r hx hk g1 g2 hj hg' b1 b2 (by omega) (by omega) d1 (by omega) c1 (by omega) t1 (by omega) hn.1 hn.2 x0 x0' x1 x1' x2 x2' x3 x3' (decide_eq_true h1') _ rfl e0 _ rfl (decide_eq_true h3) _ rfl (decide_eq_false h4)
                · exact rrun_d0i T v now w h x r hx hk g1 g2 hj hg' b1 b2 (by omega) (by omega) d1 (by omega) c1 (by omega) t1 (by omega) hn.1 hn.2 x0 x0' x1 x1' x2 x2' x3 x3' (decide_eq_false h1') _ rfl e0 _ rfl (decide_eq_true h3) _ rfl (decide_eq_false h4)
            · rw [late_no (fun h => h3 h.1), if_neg (by omega)]
              by_cases h1' : 0 < x.f1
              · exact rrun_d1n T v now w h x r hx hk g1 g2 hj hg' b1 b2 (by omega) (by omega) d1 (by omega) c1 (by omega) t1 (by omega) hn.1 hn.2 x0 x0' x1 x1' x2 x2' x3 x3' (decide_eq_true h1') _ rfl e0 _ rfl (decide_eq_false h3)
              · exact rrun_d0n T v now w h x r hx hk g1 g2 hj hg' b1 b2 (by omega) (by omega) d1 (by omega) c1 (by omega) t1 (by omega) hn.1 hn.2 x0 x0' x1 x1' x2 x2' x3 x3' (decide_eq_false h1') _ rfl e0 _ rfl (decide_eq_false h3)
          · rw [if_neg h0]
            have e0 : ((x.f0 - 1) == 0) = false := f0n h0
            by_cases h1 : x.f1 = 1
            · rw [if_pos h1]
              have e1 : ((x.f1 - 1) == 0) = true := by simp; omega
              by_cases h3 : 0 < x.f3
              · by_cases h4 : 0 < now + 1 - x.f2 - x.f3
                · rw [late_yes h3 h4, if_pos h4]
                  exact rrun_cl T v now w h x r hx hk g1 g2 hj hg' b1 b2 (by omega) (by omega) d1 (by omega) c1 (by omega) t1 (by omega) hn.1 hn.2 x0 x0' x1 x1' x2 x2' x3 x3' (decide_eq_true (by omega)) _ rfl e0 _ rfl e1 (decide_eq_true h3) _ rfl (decide_eq_true h4)
                · rw [late_no (fun h => h4 h.2), if_neg (by omega)]
                  exact rrun_ci T v now w h x r hx hk g1 g2 hj hg' b1 b2 (by omega) (by omega) d1 (by omega) c1 (by omega) t1 (by omega) hn.1 hn.2 x0 x0' x1 x1' x2 x2' x3 x3' (decide_eq_true (by omega)) _ rfl e0 _ rfl e1 (decide_eq_true h3) _ rfl (decide_eq_false h4)
              · rw [late_no (fun h => h3 h.1), if_neg (by omega)]
                exact rrun_cn T v now w h x r hx hk g1 g2 hj hg' b1 b2 (by omega) (by omega) d1 (by omega) c1 (by omega) t1 (by omega) hn.1 hn.2 x0 x0' x1 x1' x2 x2' x3 x3' (decide_eq_true (by omega)) _ rfl e0 _ rfl e1 (decide_eq_false h3)
            · rw [if_neg h1]
              by_cases h1' : 0 < x.f1
              · have e : lessJ x = ⟨x.f0 - 1, x.f1 - 1, x.f2, x.f3⟩ := by unfold lessJ; rw [if_pos h1']
                rw [e]
                exact rrun_on1 T v now w h x r hx hk g1 g2 hj hg' b1 b2 (by omega) (by omega) d1 (by omega) c1 (by omega) t1 (by omega) hn.1 hn.2 x0 x0' x1 x1' x2 x2' x3 x3' (decide_eq_true h1') _ rfl e0 _ rfl (f0n h1)
              · have e : lessJ x = ⟨x.f0 - 1, x.f1, x.f2, x.f3⟩ := by unfold lessJ; rw [if_neg h1']
                rw [e]
                exact rrun_on0 T v now w h x r hx hk g1 g2 hj hg' b1 b2 (by omega) (by omega) d1 (by omega) c1 (by omega) t1 (by omega) hn.1 hn.2 x0 x0' x1 x1' x2 x2' x3 x3' (decide_eq_false h1') _ rfl e0 _ rfl
    · have e : runF T now = (zT, 0, 0, 1) := by unfold runF; rw [if_neg (by simp [hk]), if_pos hn]
      rw [e]
      by_cases hn0 : now < 0
      · exact (rrun_lo T v now w h hk (decide_eq_true hn0)).mono fun e w' h => ⟨nilS, h.1, TR.nil _, h.2⟩
      · exact (rrun_hi T v now w h hk (decide_eq_false hn0) (decide_eq_true (by omega))).mono fun e w' h => ⟨nilS, h.1, TR.nil _, h.2⟩

end Go.Proofs.YtkfjlkpickeobaaDoor
