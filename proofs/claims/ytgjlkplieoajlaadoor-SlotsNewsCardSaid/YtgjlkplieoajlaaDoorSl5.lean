/- A table's All and Len, by contract. -/
import Derived.Test.YtgjlkplieoajlaaDoorSl4
set_option linter.unusedVariables false
set_option linter.unusedSimpArgs false
namespace Go.Proofs.YtgjlkplieoajlaaDoor
open Go.RowKit
open Go.Proofs.YtgjlkplieoajlaaDoorW.PrintWords (Kd Drawn0 Kept rd rdOf)
open Go.Proofs.YtgjlkplieoajlaaDoor.PSlotsTwins
set_option maxRecDepth 100000

theorem gen_call {P : Program} {f : FuncId} {args : Array Value} {W : World} {Q : Ending → World → Prop} (R : World → Prop) (h : R W) (k : ∀ W', R W' → Calls P f args W' Q) : Calls P f args W Q := k W h

/-- The handles of what is taken, from the slot i on. -/
def allF (kind : Int) : Nat → List Sl → List Int
  | _, [] => []
  | i, x :: r => if x.f1 = true then mk kind i x.f0 :: allF kind (i + 1) r else allF kind (i + 1) r
def allH (kind : Int) (xs : List Sl) : List Int := allF kind 0 xs
theorem allF_snoc (kind : Int) (x : Sl) : ∀ (xs : List Sl) (i : Nat), allF kind i (xs ++ [x]) = allF kind i xs ++ if x.f1 = true then [mk kind (i + xs.length : Nat) x.f0] else []
  | [], i => by simp only [List.nil_append, allF, List.length_nil, Nat.add_zero]
  | y :: ys, i => by
    simp only [List.cons_append, allF, allF_snoc kind x ys (i + 1), List.length_cons, show i + 1 + ys.length = i + (ys.length + 1) by omega]
    split <;> rfl
theorem allF_le (kind : Int) : ∀ (xs : List Sl) (i : Nat), (allF kind i xs).length ≤ xs.length
  | [], i => by simp [allF]
  | y :: ys, i => by
    have := allF_le kind ys (i + 1)
    simp only [allF]
    split <;> simp <;> omega
theorem take_snoc' {α : Type} (xs : List α) (k : Nat) (x : α) (h : xs[k]? = some x) : xs.take (k + 1) = xs.take k ++ [x] := by
  rw [List.take_add_one, h]; rfl
theorem all_take (kind : Int) (xs : List Sl) (k : Nat) (x : Sl) (h : xs[k]? = some x) : allH kind (xs.take (k + 1)) = allH kind (xs.take k) ++ if x.f1 = true then [mk kind k x.f0] else [] := by
  have hk := (List.getElem?_eq_some_iff.1 h).1
  unfold allH
  rw [take_snoc' xs k x h, allF_snoc]
  simp [Nat.min_eq_left (Nat.le_of_lt hk)]

set_option maxHeartbeats 1000000 in
theorem all_ok (t g n cap : Nat) (kind : Int) (xs : List Sl) (w : World) (H : TB w t g n cap kind xs) (hT : Tk kind n xs) :
    Calls Tryd.prog 24 #[.pointer (some ⟨t, 0, none⟩)] w fun e w' => ∃ v, e = .returned v ∧ (Kd.int .i64).R 39 w' w.heap.size (fun _ => True) v (allH kind xs) ∧ Below w.heap.size w w' := by
  have c1 := H.c1
  have hl := H.len
  have hn := hT.n1
  have HH := Lib.hid H
  have HT := Lib.hid hT
  clear H hT
  go_enter Tryd.func24, Tryd.ntmps24
  go_wp2
  clear c1
  go_loopw [3, 13] (fun v i wr => ∃ k : Nat, k ≤ n ∧ i = .int .i64 k ∧ Hid ((Kd.int .i64).R 39 wr w.heap.size (fun _ => True) v (allH kind (xs.take k))) ∧ Hid (Below w.heap.size w wr)) (fun _ i _ => n - (intOf i).toNat)
  case atStart => exact ⟨0, Nat.zero_le _, rfl, Lib.hid (Kd.R_nil _ _ _ _ _), Lib.hid (Below.refl _ _)⟩
  case round =>
    obtain ⟨k, hk, rfl, hR, hB⟩ := hrel
    by_cases hlt : k < n
    · obtain ⟨x, hx⟩ : ∃ x, xs[k]? = some x := ⟨xs[k], List.getElem?_eq_getElem (by omega)⟩
      have HW := Lib.hid (HH.out.below hB.out)
      have e0 := HW.out.e0 hx
      have e1 := HW.out.e1 hx
      have e2 := HW.out.e2 hx
      have AT := Lib.hid (all_take kind xs k x hx)
      have HX := Lib.hid hx
      clear hx
      obtain ⟨gen, tk, thing⟩ := x
      cases tk with
      | false =>
        go_wp2
        go_roundw
        case rel => exact ⟨k + 1, by omega, by go_num, Lib.hid (by rw [AT.out]; simpa using Kd.R_alloc hR.out _), Lib.hid (below_alloc hB.out (Nat.le_refl _) _)⟩
        case measure => simp [intOf]; omega
      | true =>
        go_wp2_with fail
        have HB1 := Lib.hid (below_alloc hB.out (Nat.le_refl _) (.cells #[.int .i64 gen, .bool true, .int .i64 thing] 90))
        have HR1 := Lib.hid (Kd.R_alloc hR.out (.cells #[.int .i64 gen, .bool true, .int .i64 thing] 90))
        have HW1 := Lib.hid (HW.out.below ((Below.refl _ wr).alloc (Nat.le_refl _) (.cells #[.int .i64 gen, .bool true, .int .i64 thing] 90)))
        generalize (wr.alloc (.cells #[.int .i64 gen, .bool true, .int .i64 thing] 90)) = W1 at HB1 HR1 HW1 ⊢
        clear HW hR hB e0 e1 e2
        refine (name_q t g n cap k kind xs _ W1 HW1.out HT.out HX.out (HT.out.top k _ HX.out rfl)).mono ?_
        rintro e w' ⟨rfl, m, hw⟩
        have HB2 := Lib.hid (show Below w.heap.size w w' by rw [hw]; exact below_drewN' HB1.out m)
        have HR2 := Lib.hid (show (Kd.int .i64).R 39 w' w.heap.size (fun _ => True) u3 (allH kind (xs.take k)) by rw [hw]; exact Kd.R_drewN HR1.out m)
        clear hw HB1 HR1 HW1
        have hle : (allH kind (xs.take k)).length ≤ 4096 := by
          have := allF_le kind (xs.take k) 0
          unfold allH
          simp only [List.length_take] at this
          omega
        go_wp2_with (first
          | (at_builtin; refine Kd.R_append (Kd.int .i64) (w0 := w) w.heap.size rfl (.tmp 20) (.tmp 24) 38 39 (.int .i64 0) 8 rfl Tryd.underlying38 info39 rfl (by decide) (by omega) _ (allH kind (xs.take k)) (mk kind k gen) [.int .i64 (mk kind k gen)] (fun _ => True) (fun _ => False) rfl rfl rfl (fun _ hk => hk.elim) (fun _ _ => trivial) HR2.out HB2.out (by have := HB2.out.size; omega) (by omega) ?_; intro v1 w1 hR1 hB1 hg1 hat1)
          | fail)
        have HR3 := Lib.hid (show (Kd.int .i64).R 39 w1 w.heap.size (fun _ => True) v1 (allH kind (xs.take (k + 1))) by rw [AT.out]; exact hR1)
        have HB3 := Lib.hid hB1
        clear hR1 hB1 hg1 hat1
        go_wp2
        go_roundw
        case rel => exact ⟨k + 1, by omega, by go_num, HR3, HB3⟩
        case measure => simp [intOf]; omega
    · go_wp2
      go_ret
      have e : k = n := by omega
      subst e
      refine ⟨_, rfl, ?_, hB.out⟩
      have := hR.out
      rwa [List.take_of_length_le (by omega)] at this

theorem all_nil (w : World) :
    Calls Tryd.prog 24 #[.pointer none] w fun e w' => e = .returned (.slice none 0 0) ∧ w = w' := by
  go_enter Tryd.func24, Tryd.ntmps24
  go_wp2
  go_ret
  exact ⟨rfl, rfl⟩

theorem len_ok (t g n cap : Nat) (kind : Int) (xs : List Sl) (w : World) (H : TB w t g n cap kind xs) (hT : Tk kind n xs) :
    Calls Tryd.prog 18 #[.pointer (some ⟨t, 0, none⟩)] w fun e w' => e = .returned (.int .i64 ((allH kind xs).length : Int)) ∧ Below w.heap.size w w' := by
  have A := Lib.hid (all_ok t g n cap kind xs w H hT)
  clear H hT
  go_enter Tryd.func18, Tryd.ntmps18
  go_wp2_with fail
  refine A.out.mono ?_
  rintro e w' ⟨v, rfl, hR, hB⟩
  obtain ⟨A1, c1, rfl⟩ := Kd.R_slice hR
  have HB := Lib.hid hB
  clear hR hB
  go_wp2
  go_ret
  exact ⟨rfl, HB.out⟩

end Go.Proofs.YtgjlkplieoajlaaDoor
