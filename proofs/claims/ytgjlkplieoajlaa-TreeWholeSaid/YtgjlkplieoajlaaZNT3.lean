/- Of the text NT3 only what this claim needs (shake.py, this repo's). -/
import Derived.Test.YtgjlkplieoajlaaZNT2
set_option linter.unusedVariables false
set_option linter.unusedSimpArgs false
namespace Go.Proofs.Ytgjlkplieoajlaa
open Go.RowKit
open Go.Proofs.YtgjlkplieoajlaaW.PrintWords (Kd Drawn0 Kept rd rdOf)
open Go.Proofs.Ytgjlkplieoajlaa.PTreeWhole
set_option maxRecDepth 100000

theorem nfind_got (t g n cap i : Nat) (kind h gen : Int) (p0 : Int) (xs : List Nk) (w : World) (H : NT w t g n cap kind xs) (hv : (if hokB h = true then hk h else 0) = kind) (hi : (if hokB h = true then hs h else -1) = (i : Int)) (hgg : (if hokB h = true then hg h else 0) = gen) (hx : xs[i]? = some ⟨gen, true, p0⟩) :
    Calls Try.prog 26 #[.pointer (some ⟨t, 0, none⟩), .int .i64 h] w fun e w' => e = .returned (.tuple #[.pointer (some ⟨g, i * 3, none⟩), .nilIface]) ∧ ∃ m, w' = w.drewN m := by
  have c0 := H.c0
  have c1 := H.c1
  have hin : i < n := by have := (List.getElem?_eq_some_iff.1 hx).1; have := H.len; omega
  have K := fun w => kind_q h kind w hv
  have HK := Lib.hid K
  have S := fun w => slot_q h i w hi
  have HS := Lib.hid S
  have G := fun w => gen_q h gen w hgg
  have HG := Lib.hid G
  have e1 : w.cell? ⟨g, i * 3 + 1, none⟩ = some (.bool true) := H.e1 hx
  have e0 : w.cell? ⟨g, i * 3, none⟩ = some (.int .i64 gen) := H.e0 hx
  have t0 : decide ((i : Int) < 0) = false := decide_eq_false (by omega)
  have t1 : decide (n ≤ i) = false := decide_eq_false (by omega)
  clear K S G H hv hi hgg hx
  go_enter Try.func26, Try.ntmps26
  go_wp2_with (go_quiet ((first | (go_at_call 28; exact Calls.quiet_of (HK.out _)))))
  go_wp2_with fail
  refine (HS.out _).mono ?_
  rintro e w' ⟨rfl, m, hw⟩
  have HW := Lib.hid (show ∃ m, w' = w.drewN m from ⟨_, by rw [hw, World.drewN_drewN]⟩)
  have c1' : w'.cell? ⟨t, 1, none⟩ = some (.slice (some ⟨g, 0, none⟩) n cap) := by rw [hw]; exact c1
  have e1' : w'.cell? ⟨g, i * 3 + 1, none⟩ = some (.bool true) := by rw [hw]; exact e1
  have e0' : w'.cell? ⟨g, i * 3, none⟩ = some (.int .i64 gen) := by rw [hw]; exact e0
  clear hw c0 c1 e1 e0
  go_wp2_with (go_quiet ((go_at_call 30; exact Calls.quiet_of (HG.out _))))
  go_ret2
  obtain ⟨m', rfl⟩ := HW.out
  exact ⟨rfl, _, World.drewN_drewN ..⟩

/-- The slot i bears the handle h. -/
def NAt (kind h : Int) (xs : List Nk) (i : Nat) (x : Nk) : Prop := xs[i]? = some x ∧ x.f1 = true ∧ mk kind i x.f0 = h
theorem nfind_hit (t g n cap i : Nat) (kind h : Int) (xs : List Nk) (x : Nk) (w : World) (H : NT w t g n cap kind xs) (hT : NM kind n xs) (ha : NAt kind h xs i x) :
    Calls Try.prog 26 #[.pointer (some ⟨t, 0, none⟩), .int .i64 h] w fun e w' => e = .returned (.tuple #[.pointer (some ⟨g, i * 3, none⟩), .nilIface]) ∧ ∃ m, w' = w.drewN m := by
  obtain ⟨hx, hf, he⟩ := ha
  have hi := (List.getElem?_eq_some_iff.1 hx).1
  have hl := H.len
  have hn := hT.n1
  have g1 := hT.gen i x hx
  have g2 := hT.top i x hx hf
  have p := hk_mk kind (i : Int) x.f0 (by omega) (by omega) (by omega) (by omega)
  rw [he] at p
  have ok : hokB h = true := by
    unfold hokB
    rw [p.1, p.2.1, p.2.2]
    have := hT.k0; have := hT.k3
    exact decide_eq_true (by omega)
  obtain ⟨gen, tk, p0⟩ := x
  obtain rfl : tk = true := hf
  exact nfind_got t g n cap i kind h gen p0 xs w H (by rw [if_pos ok, p.1]) (by rw [if_pos ok, p.2.1]) (by rw [if_pos ok, p.2.2]) hx

theorem nget_hit (t g n cap i : Nat) (kind h : Int) (xs : List Nk) (x : Nk) (w : World) (H : NT w t g n cap kind xs) (hT : NM kind n xs) (ha : NAt kind h xs i x) :
    Calls Try.prog 22 #[.pointer (some ⟨t, 0, none⟩), .int .i64 h] w fun e w' => e = .returned (.tuple #[.agg #[.int .i64 x.p], .nilIface]) ∧ Below w.heap.size w w' := by
  have hb0 := (Below.refl w.heap.size w).alloc (Nat.le_refl _) (.cells #[.int .i64 0] 50)
  have F := Lib.hid (nfind_hit t g n cap i kind h xs x _ (H.below hb0) hT ha)
  have e2 := (H.below hb0).e2 ha.1
  have hbl := H.ltg
  have HB0 := Lib.hid hb0
  clear H hT ha hb0
  go_enter Try.func22, Try.ntmps22
  go_wp2_with fail
  refine F.out.mono ?_
  rintro e w' ⟨rfl, m, hw⟩
  subst hw
  go_wp2
  have HB := (below_drewN' HB0.out m).setCell (p := ⟨w.heap.size, 0, none⟩) (Nat.le_refl w.heap.size) (.int .i64 x.p)
  refine bodyPost_ret (v := .tuple #[.agg #[.int .i64 x.p], .nilIface]) (by simp [results, Try.f22, go_sem]) rfl ⟨rfl, ?_⟩
  with_reducible exact HB

set_option maxHeartbeats 1000000 in
theorem ndrop_hit (t g n cap i : Nat) (kind h : Int) (xs : List Nk) (x : Nk) (w : World) (H : NT w t g n cap kind xs) (hT : NM kind n xs) (ha : NAt kind h xs i x) :
    Calls Try.prog 23 #[.pointer (some ⟨t, 0, none⟩), .int .i64 h] w fun e w' => e = .returned .nilIface ∧ NT w' t g n cap kind (xs.set i (noNk (x.f0 + 1))) ∧ Chg (fun k => k = g) w w' := by
  have F := Lib.hid (nfind_hit t g n cap i kind h xs x w H hT ha)
  have g1 := (hT.gen i x ha.1).1
  have g2 := (hT.gen i x ha.1).2
  have e0 := H.e0 ha.1
  have e1 := H.e1 ha.1
  have e2 := H.e2 ha.1
  obtain ⟨f0, f1, f2⟩ := H.f3 i
  have HH := Lib.hid H
  have HA := Lib.hid ha
  clear H hT ha
  go_enter Try.func23, Try.ntmps23
  go_wp2_with fail
  refine F.out.mono ?_
  rintro e w' ⟨rfl, m, hw⟩
  subst hw
  go_wp2
  go_ret
  have r := (HH.out.drewN m).set3 HA.out.1 (x.f0 + 1) false 0 rfl
  exact ⟨rfl, r.1, ((Chg.refl _ w).drewN m).trans r.2⟩

end Go.Proofs.Ytgjlkplieoajlaa
