/- Of the text NT6 only what this claim needs (shake.py, this repo's). -/
import Derived.Test.YtgjlkplieoajlaaZNT5
set_option linter.unusedVariables false
set_option linter.unusedSimpArgs false
namespace Go.Proofs.Ytgjlkplieoajlaa
open Go.RowKit
open Go.Proofs.YtgjlkplieoajlaaW.PrintWords (Kd Drawn0 Kept rd rdOf)
open Go.Proofs.Ytgjlkplieoajlaa.PTreeWhole
set_option maxRecDepth 100000

/-- The handles of what is taken, from the slot i on. -/
def nallF (kind : Int) : Nat → List Nk → List Int
  | _, [] => []
  | i, x :: r => if x.f1 = true then mk kind i x.f0 :: nallF kind (i + 1) r else nallF kind (i + 1) r
def nallH (kind : Int) (xs : List Nk) : List Int := nallF kind 0 xs
theorem nallF_snoc (kind : Int) (x : Nk) : ∀ (xs : List Nk) (i : Nat), nallF kind i (xs ++ [x]) = nallF kind i xs ++ if x.f1 = true then [mk kind (i + xs.length : Nat) x.f0] else []
  | [], i => by simp only [List.nil_append, nallF, List.length_nil, Nat.add_zero]
  | y :: ys, i => by
    simp only [List.cons_append, nallF, nallF_snoc kind x ys (i + 1), List.length_cons, show i + 1 + ys.length = i + (ys.length + 1) by omega]
    split <;> rfl
theorem nallF_le (kind : Int) : ∀ (xs : List Nk) (i : Nat), (nallF kind i xs).length ≤ xs.length
  | [], i => by simp [nallF]
  | y :: ys, i => by
    have := nallF_le kind ys (i + 1)
    simp only [nallF]
    split <;> simp <;> omega
theorem ttake_snoc {α : Type} (xs : List α) (k : Nat) (x : α) (h : xs[k]? = some x) : xs.take (k + 1) = xs.take k ++ [x] := by
  rw [List.take_add_one, h]; rfl
theorem nall_take (kind : Int) (xs : List Nk) (k : Nat) (x : Nk) (h : xs[k]? = some x) : nallH kind (xs.take (k + 1)) = nallH kind (xs.take k) ++ if x.f1 = true then [mk kind k x.f0] else [] := by
  have hk := (List.getElem?_eq_some_iff.1 h).1
  unfold nallH
  rw [ttake_snoc xs k x h, nallF_snoc]
  simp [Nat.min_eq_left (Nat.le_of_lt hk)]

theorem infoH : (Try.prog.info? 27).map (fun i => (i.zero, i.size, i.bytes)) = some (some (.int .i64 0), 1, 8) := by kernel_rfl
set_option maxHeartbeats 1000000 in
theorem nall_ok (t g n cap : Nat) (kind : Int) (xs : List Nk) (w : World) (H : NT w t g n cap kind xs) (hT : NM kind n xs) :
    Calls Try.prog 21 #[.pointer (some ⟨t, 0, none⟩)] w fun e w' => ∃ v, e = .returned v ∧ (Kd.int .i64).R 27 w' w.heap.size (fun _ => True) v (nallH kind xs) ∧ Below w.heap.size w w' := by
  have c1 := H.c1
  have hl := H.len
  have hn := hT.n1
  have HH := Lib.hid H
  have HT := Lib.hid hT
  clear H hT
  go_enter Try.func21, Try.ntmps21
  go_wp2
  clear c1
  go_loopw [3, 13] (fun v i wr => ∃ k : Nat, k ≤ n ∧ i = .int .i64 k ∧ Hid ((Kd.int .i64).R 27 wr w.heap.size (fun _ => True) v (nallH kind (xs.take k))) ∧ Hid (Below w.heap.size w wr)) (fun _ i _ => n - (intOf i).toNat)
  case atStart => exact ⟨0, Nat.zero_le _, rfl, Lib.hid (Kd.R_nil _ _ _ _ _), Lib.hid (Below.refl _ _)⟩
  case round =>
    obtain ⟨k, hk, rfl, hR, hB⟩ := hrel
    by_cases hlt : k < n
    · obtain ⟨x, hx⟩ : ∃ x, xs[k]? = some x := ⟨xs[k], List.getElem?_eq_getElem (by omega)⟩
      have HW := Lib.hid (HH.out.below hB.out)
      have e0 := HW.out.e0 hx
      have e1 := HW.out.e1 hx
      have e2 := HW.out.e2 hx
      have AT := Lib.hid (nall_take kind xs k x hx)
      have HX := Lib.hid hx
      clear hx
      obtain ⟨gen, tk, p0⟩ := x
      cases tk with
      | false =>
        go_wp2
        go_roundw
        case rel => exact ⟨k + 1, by omega, by go_num, Lib.hid (by rw [AT.out]; simpa using Kd.R_alloc hR.out _), Lib.hid (below_alloc hB.out (Nat.le_refl _) _)⟩
        case measure => simp [intOf]; omega
      | true =>
        go_wp2_with fail
        have HB1 := Lib.hid (below_alloc hB.out (Nat.le_refl _) (.cells #[.int .i64 gen, .bool true, .int .i64 p0] 65))
        have HR1 := Lib.hid (Kd.R_alloc hR.out (.cells #[.int .i64 gen, .bool true, .int .i64 p0] 65))
        have HW1 := Lib.hid (HW.out.below ((Below.refl _ wr).alloc (Nat.le_refl _) (.cells #[.int .i64 gen, .bool true, .int .i64 p0] 65)))
        generalize (wr.alloc (.cells #[.int .i64 gen, .bool true, .int .i64 p0] 65)) = W1 at HB1 HR1 HW1 ⊢
        clear HW hR hB e0 e1 e2
        refine (nname_q t g n cap k kind xs _ W1 HW1.out HT.out HX.out (HT.out.top k _ HX.out rfl)).mono ?_
        rintro e w' ⟨rfl, m, hw⟩
        have HB2 := Lib.hid (show Below w.heap.size w w' by rw [hw]; exact below_drewN' HB1.out m)
        have HR2 := Lib.hid (show (Kd.int .i64).R 27 w' w.heap.size (fun _ => True) u3 (nallH kind (xs.take k)) by rw [hw]; exact Kd.R_drewN HR1.out m)
        clear hw HB1 HR1 HW1
        have hle : (nallH kind (xs.take k)).length ≤ 4096 := by
          have := nallF_le kind (xs.take k) 0
          unfold nallH
          simp only [List.length_take] at this
          omega
        go_wp2_with (first
          | (at_builtin; go_loud (refine Kd.R_append (Kd.int .i64) (w0 := w) w.heap.size rfl (.tmp 20) (.tmp 24) 25 27 (.int .i64 0) 8 rfl Try.underlying25 infoH rfl (by decide) (by omega) _ (nallH kind (xs.take k)) (mk kind k gen) [.int .i64 (mk kind k gen)] (fun _ => True) (fun _ => False) rfl rfl rfl (fun _ hk => hk.elim) (fun _ _ => trivial) HR2.out HB2.out (by have := HB2.out.size; omega) (by omega) ?_); intro v1 w1 hR1 hB1 hg1 hat1)
          | fail)
        have HR3 := Lib.hid (show (Kd.int .i64).R 27 w1 w.heap.size (fun _ => True) v1 (nallH kind (xs.take (k + 1))) by rw [AT.out]; exact hR1)
        have HB3 := Lib.hid hB1
        clear hR1 hB1 hg1 hat1
        go_wp2
        go_roundw
        case rel => exact ⟨k + 1, by omega, by go_num, HR3, HB3⟩
        case measure => simp [intOf]; omega
    · go_wp2
      go_ret
      have e : k = n := by omega
      subst e
      refine ⟨_, rfl, ?_, hB.out⟩
      have := hR.out
      rwa [List.take_of_length_le (by omega)] at this

end Go.Proofs.Ytgjlkplieoajlaa
