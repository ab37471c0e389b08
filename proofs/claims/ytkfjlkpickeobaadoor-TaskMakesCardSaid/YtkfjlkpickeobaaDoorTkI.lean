/- What TaskMakes wants besides: task.Same, both News, Valid and Show by contract. -/
import Derived.Test.YtkfjlkpickeobaaDoorTkH
import Derived.Test.YtkfjlkpickeobaaDoorTkAm
set_option linter.unusedVariables false
set_option linter.unusedSimpArgs false
namespace Go.Proofs.YtkfjlkpickeobaaDoor
open Go.RowKit
open Go.Proofs.YtkfjlkpickeobaaDoorW.PrintWords (Kd Drawn0 Kept rd rdOf ReadsRow)
open Go.Proofs.YtkfjlkpickeobaaDoor.PTaskRuns
set_option maxRecDepth 100000

theorem rtext_no (T : Tk) (v : Value) (w : World) (h : TR w v T.js) (hl : T.js.length ≤ 9223372036854775800) (hk : T.okB = false) :
    Calls Tryd.prog 27 #[T.v v] w fun e w' => e = .returned (.string ⟨#[]⟩) ∧ Below w.heap.size w w' := by
  have hb0 : Below w.heap.size w (w.alloc (.cells #[.int .i64 T.p, v, .int .i64 T.g, .int .i64 T.o, .int .i64 T.l, .int .i64 T.d, .int .i64 T.c, .int .i64 T.t] 26)) := (Below.refl _ w).alloc (Nat.le_refl _) _
  have HV := Lib.hid (rvalid_c T v _ (h.below hb0) hl)
  have HB0 := Lib.hid hb0
  have HK := Lib.hid hk
  clear h hb0 hk
  go_enter Tryd.func27, Tryd.ntmps27
  go_wp2_with fail
  refine HV.out.mono ?_
  rintro e w1 ⟨rfl, hb⟩
  rw [HK.out]
  have HB1 := Lib.hid (below_call HB0.out (Nat.le_refl _) hb)
  go_wp2
  go_ret
  exact ⟨rfl, HB1.out⟩

theorem jeq_l0 (xs ys : List Jb) (hlen : xs.length = ys.length) (hl : xs.length ≤ 9223372036854775800) : ∀ (m i k : Nat), i + m = xs.length → m < k →
    ∃ r, api_Job_53.l0 k xs ys (xs.length : Int) (i : Int) = some r ∧ (r = true ↔ xs.drop i = ys.drop i) := by
  intro m
  induction m with
  | zero =>
    intro i k hi hk
    obtain ⟨k, rfl⟩ : ∃ c, k = c + 1 := ⟨k - 1, by omega⟩
    refine ⟨true, ?_, ?_⟩
    · simp only [api_Job_53.l0]
      rw [if_neg (by omega)]
    · rw [List.drop_of_length_le (by omega), List.drop_of_length_le (by omega)]; simp
  | succ m ih =>
    intro i k hi hk
    obtain ⟨k, rfl⟩ : ∃ c, k = c + 1 := ⟨k - 1, by omega⟩
    have ha : i < xs.length := by omega
    have hb : i < ys.length := by omega
    simp only [api_Job_53.l0]
    rw [if_pos (by omega), if_pos (by omega), if_pos (by omega), if_pos (by omega), wrap_i (by omega), rdJ ha, rdJ hb]
    rw [show xs.drop i = xs[i] :: xs.drop (i + 1) from List.drop_eq_getElem_cons ha, show ys.drop i = ys[i] :: ys.drop (i + 1) from List.drop_eq_getElem_cons hb]
    by_cases he : xs[i] = ys[i]
    · rw [if_neg (by rw [jb_eq]; exact fun h => h he)]
      obtain ⟨r, h1, h2⟩ := ih (i + 1) k (by omega) (by omega)
      exact ⟨r, h1, h2.trans (by rw [he]; exact ⟨fun h => by rw [h], fun h => (List.cons.inj h).2⟩)⟩
    · rw [if_pos (by rw [jb_eq]; exact he)]
      exact ⟨false, rfl, ⟨(fun h => by cases h), fun h => absurd (List.cons.inj h).1 he⟩⟩
theorem jeq_f (xs ys : List Jb) (hl : xs.length ≤ 9223372036854775800) : ∃ r, api_Job_53.f (xs.length + 1) xs ys = some r ∧ (r = true ↔ xs = ys) := by
  unfold api_Job_53.f
  by_cases h : xs.length = ys.length
  · rw [if_pos (by omega)]
    obtain ⟨r, h1, h2⟩ := jeq_l0 xs ys h hl xs.length 0 (xs.length + 1) (by omega) (by omega)
    exact ⟨r, h1, by simpa using h2⟩
  · rw [if_neg (by omega)]
    exact ⟨false, rfl, ⟨(fun h => by cases h), fun e => absurd (by rw [e]) h⟩⟩
theorem tsame_c (a b : Tk) (u v : Value) (w : World) (ha : TR w u a.js) (hb : TR w v b.js) (hl : a.js.length ≤ 9223372036854775800) :
    Calls Tryd.prog 28 #[a.v u, b.v v] w fun e w' => e = .returned (.bool (sameB a b)) ∧ Below w.heap.size w w' := by
  obtain ⟨A, c, rfl, h1, h2⟩ := ha
  obtain ⟨A', c', rfl, h1', h2'⟩ := hb
  refine task_Same.calls (a.js.length + 1) a.p A c a.js a.g a.o a.l a.d a.c a.t b.p A' c' b.js b.g b.o b.l b.d b.c b.t _ w h2 h1 h2' h1' ?_
  have hext : a = b ↔ a.p = b.p ∧ (a.g = b.g ∧ a.o = b.o ∧ a.l = b.l ∧ a.d = b.d ∧ a.c = b.c ∧ a.t = b.t) ∧ a.js = b.js := by
    constructor
    · rintro rfl; exact ⟨rfl, ⟨rfl, rfl, rfl, rfl, rfl, rfl⟩, rfl⟩
    · rintro ⟨h1, ⟨h3, h4, h5, h6, h7, h8⟩, h2⟩; cases a; cases b; dsimp only at *; subst_vars; rfl
  unfold task_Same.f
  obtain ⟨r, e1, e2⟩ := jeq_f a.js b.js hl
  by_cases g1 : a.p = b.p
  · rw [if_pos g1]
    by_cases g2 : a.g = b.g ∧ a.o = b.o ∧ a.l = b.l ∧ a.d = b.d ∧ a.c = b.c ∧ a.t = b.t
    · rw [if_pos (by obtain ⟨e1, e2, e3, e4, e5, e6⟩ := g2; simp [e1, e2, e3, e4, e5, e6]), e1]
      simp only [Option.bind_some]
      congr 1
      rw [Bool.eq_iff_iff, e2]
      simp [sameB, hext, g1, g2]
    · rw [if_neg (by simpa using g2)]
      congr 1
      simp [sameB, hext, g2]
  · rw [if_neg g1]
    congr 1
    simp [sameB, hext, g1]

/-! The News, Valid, Show. -/
noncomputable def newF (p : Int) : Tk × Int := if 0 ≤ p ∧ p ≤ 31 then (⟨p, [], 0, 0, 0, 0, 0, 0⟩, 0) else (zT, 2)
theorem tnew_c (p : Int) (w : World) : Calls Tryd.prog 21 #[.int .i64 p] w fun e w' => ∃ v, e = .returned (.tuple #[(newF p).1.v v, errV (newF p).2]) ∧ kJ.R 28 w' w.heap.size (fun _ => True) v (newF p).1.js ∧ Below w.heap.size w w' := by
  unfold newF
  by_cases h : 0 ≤ p ∧ p ≤ 31
  · rw [if_pos h]; exact new_yes p w h
  · rw [if_neg h]; exact new_no p w h
theorem rnew_c (p : Int) (w : World) : Calls Tryd.prog 24 #[.int .i64 p] w fun e w' => ∃ v, e = .returned (.tuple #[(newF p).1.v v, .int .i64 (newF p).2]) ∧ kJ.R 28 w' w.heap.size (fun _ => True) v (newF p).1.js ∧ Below w.heap.size w w' := by
  unfold newF
  by_cases h : 0 ≤ p ∧ p ≤ 31
  · rw [if_pos h]
    refine (titheref12_New.calls p p [] 0 0 0 0 0 0 0 w ?_).mono (fun e w' h => h)
    unfold titheref12_New.f
    rw [if_neg (by omega), if_neg (by omega)]
  · rw [if_neg h]
    refine (titheref12_New.calls p 0 [] 0 0 0 0 0 0 2 w ?_).mono (fun e w' h => h)
    unfold titheref12_New.f
    by_cases h0 : p < 0
    · rw [if_pos h0]
    · rw [if_neg h0, if_pos (by omega)]
def valF (T : Tk) : Int := if T.okB = true then 0 else 270
theorem tvalid_e (T : Tk) (v : Value) (w : World) (h : TR w v T.js) (hl : T.js.length ≤ 9223372036854775800) : Calls Tryd.prog 23 #[T.v v] w fun e w' => e = .returned (errV (valF T)) ∧ Below w.heap.size w w' := by
  unfold valF
  by_cases hk : T.okB = true
  · rw [if_pos hk]; exact tvalid_yes T v w h hk
  · rw [if_neg hk]; exact tvalid_no T v w h hl (by simpa using hk)
noncomputable def textF (T : Tk) : ByteArray := if T.okB = true then ⟨(showF T).toArray⟩ else ⟨#[]⟩
theorem ok_nums {T : Tk} (hk : T.okB = true) : (okN T.p ∧ okN T.g ∧ okN T.d ∧ okN T.c ∧ okN T.t) ∧ ∀ x ∈ T.js, okN x.f0 ∧ okN x.f1 ∧ okN x.f2 ∧ okN x.f3 := by
  unfold Tk.okB at hk
  simp only [Bool.and_eq_true, List.all_eq_true, decide_eq_true_eq] at hk
  obtain ⟨⟨⟨h1, h2⟩, h3⟩, h4⟩ := hk
  unfold accP at h3
  unfold okN
  refine ⟨by omega, fun x hx => ?_⟩
  obtain ⟨p0, p1, p2, p3⟩ : jobP x := of_decide_eq_true (h4 x hx)
  omega
theorem show_c (T : Tk) (v : Value) (w : World) (h : TR w v T.js) (hl : T.js.length ≤ 9223372036854775800) (hi : ItOk okN w.heap.size w) :
    Calls Tryd.prog 26 #[T.v v] w fun e w' => e = .returned (.string (textF T)) ∧ Below w.heap.size w w' := by
  unfold textF
  by_cases hk : T.okB = true
  · rw [if_pos hk]
    exact show_yes okN T v w h hk hi (ok_nums hk).1 (ok_nums hk).2
  · rw [if_neg hk]; exact show_no T v w h hl (by simpa using hk)
theorem rtext_c (T : Tk) (v : Value) (w : World) (h : TR w v T.js) (hl : T.js.length ≤ 9223372036854775800) :
    Calls Tryd.prog 27 #[T.v v] w fun e w' => e = .returned (.string (textF T)) ∧ Below w.heap.size w w' := by
  unfold textF
  by_cases hk : T.okB = true
  · rw [if_pos hk]
    exact rtext_yes T v w h hk (ok_nums hk).1
  · rw [if_neg hk]; exact rtext_no T v w h hl (by simpa using hk)

end Go.Proofs.YtkfjlkpickeobaaDoor
