/- A table's find, by contract. -/
import Derived.Test.YtgjlkplieoajlaaDoorSl1
set_option linter.unusedVariables false
set_option linter.unusedSimpArgs false
namespace Go.Proofs.YtgjlkplieoajlaaDoor
open Go.RowKit
open Go.Proofs.YtgjlkplieoajlaaDoorW.PrintWords (Kd Drawn0 Kept rd rdOf)
open Go.Proofs.YtgjlkplieoajlaaDoor.PSlotsTwins
set_option maxRecDepth 100000

theorem find_kind (t g n cap : Nat) (kind h v : Int) (xs : List Sl) (w : World) (H : TB w t g n cap kind xs) (hv : (if hokB h = true then hk h else 0) = v) (hne : (v == kind) = false) :
    Calls Tryd.prog 43 #[.pointer (some ⟨t, 0, none⟩), .int .i64 h] w fun e w' => e = .returned (.tuple #[.pointer none, .iface 85 (.int .i64 20)]) ∧ ∃ m, w' = w.drewN m := by
  have c0 := H.c0
  have K := fun w => kind_q h v w hv
  have HK := Lib.hid K
  clear K H hv
  go_enter Tryd.func43, Tryd.ntmps43
  go_wp2_with (go_quiet ((go_at_call 75; exact Calls.quiet_of (HK.out _))))
  go_ret2
  exact ⟨rfl, _, rfl⟩

theorem find_nil (h : Int) (w : World) :
    Calls Tryd.prog 43 #[.pointer none, .int .i64 h] w fun e w' => e = .returned (.tuple #[.pointer none, .iface 85 (.int .i64 20)]) ∧ ∃ m, w' = w.drewN m := by
  go_enter Tryd.func43, Tryd.ntmps43
  go_wp2_with (go_quiet (fail))
  go_ret2
  exact ⟨rfl, _, rfl⟩

theorem find_far (t g n cap i : Nat) (kind h : Int) (xs : List Sl) (w : World) (H : TB w t g n cap kind xs) (hv : (if hokB h = true then hk h else 0) = kind) (hi : (if hokB h = true then hs h else -1) = (i : Int)) (hfar : n ≤ i) :
    Calls Tryd.prog 43 #[.pointer (some ⟨t, 0, none⟩), .int .i64 h] w fun e w' => e = .returned (.tuple #[.pointer none, .iface 85 (.int .i64 20)]) ∧ ∃ m, w' = w.drewN m := by
  have c0 := H.c0
  have c1 := H.c1
  have K := fun w => kind_q h kind w hv
  have HK := Lib.hid K
  have S := fun w => slot_q h i w hi
  have HS := Lib.hid S
  have t0 : decide ((i : Int) < 0) = false := decide_eq_false (by omega)
  have t1 : decide (n ≤ i) = true := by simpa using hfar
  clear K S H hv hi hfar
  go_enter Tryd.func43, Tryd.ntmps43
  go_wp2_with (go_quiet ((first | (go_at_call 75; exact Calls.quiet_of (HK.out _)))))
  go_wp2_with ((go_at_call 76; refine (HS.out _).mono ?_; rintro e w' ⟨rfl, m, rfl⟩))
  go_wp2_with (go_quiet (fail))
  go_ret2
  exact ⟨rfl, _, rfl⟩

theorem find_free (t g n cap i : Nat) (kind h gen thing : Int) (xs : List Sl) (w : World) (H : TB w t g n cap kind xs) (hv : (if hokB h = true then hk h else 0) = kind) (hi : (if hokB h = true then hs h else -1) = (i : Int)) (hx : xs[i]? = some ⟨gen, false, thing⟩) :
    Calls Tryd.prog 43 #[.pointer (some ⟨t, 0, none⟩), .int .i64 h] w fun e w' => e = .returned (.tuple #[.pointer none, .iface 85 (.int .i64 20)]) ∧ ∃ m, w' = w.drewN m := by
  have c0 := H.c0
  have c1 := H.c1
  have hin : i < n := by have := (List.getElem?_eq_some_iff.1 hx).1; have := H.len; omega
  have K := fun w => kind_q h kind w hv
  have HK := Lib.hid K
  have S := fun w => slot_q h i w hi
  have HS := Lib.hid S
  have e1 : w.cell? ⟨g, i * 3 + 1, none⟩ = some (.bool false) := H.e1 hx
  have t0 : decide ((i : Int) < 0) = false := decide_eq_false (by omega)
  have t1 : decide (n ≤ i) = false := decide_eq_false (by omega)
  clear K S H hv hi hx
  go_enter Tryd.func43, Tryd.ntmps43
  go_wp2_with (go_quiet ((first | (go_at_call 75; exact Calls.quiet_of (HK.out _)))))
  go_wp2_with ((go_at_call 76; refine (HS.out _).mono ?_; rintro e w' ⟨rfl, m, rfl⟩))
  go_wp2_with (go_quiet (fail))
  go_ret2
  exact ⟨rfl, _, rfl⟩

theorem find_gen (t g n cap i : Nat) (kind h gen thing v : Int) (xs : List Sl) (w : World) (H : TB w t g n cap kind xs) (hv : (if hokB h = true then hk h else 0) = kind) (hi : (if hokB h = true then hs h else -1) = (i : Int)) (hgg : (if hokB h = true then hg h else 0) = v) (hx : xs[i]? = some ⟨gen, true, thing⟩) (hne : (gen == v) = false) :
    Calls Tryd.prog 43 #[.pointer (some ⟨t, 0, none⟩), .int .i64 h] w fun e w' => e = .returned (.tuple #[.pointer none, .iface 85 (.int .i64 20)]) ∧ ∃ m, w' = w.drewN m := by
  have c0 := H.c0
  have c1 := H.c1
  have hin : i < n := by have := (List.getElem?_eq_some_iff.1 hx).1; have := H.len; omega
  have K := fun w => kind_q h kind w hv
  have HK := Lib.hid K
  have S := fun w => slot_q h i w hi
  have HS := Lib.hid S
  have G := fun w => gen_q h v w hgg
  have HG := Lib.hid G
  have e1 : w.cell? ⟨g, i * 3 + 1, none⟩ = some (.bool true) := H.e1 hx
  have e0 : w.cell? ⟨g, i * 3, none⟩ = some (.int .i64 gen) := H.e0 hx
  have t0 : decide ((i : Int) < 0) = false := decide_eq_false (by omega)
  have t1 : decide (n ≤ i) = false := decide_eq_false (by omega)
  clear K S G H hv hi hgg hx
  go_enter Tryd.func43, Tryd.ntmps43
  go_wp2_with (go_quiet ((first | (go_at_call 75; exact Calls.quiet_of (HK.out _)))))
  go_wp2_with fail
  refine (HS.out _).mono ?_
  rintro e w' ⟨rfl, m, hw⟩
  have HW := Lib.hid (show ∃ m, w' = w.drewN m from ⟨_, by rw [hw, World.drewN_drewN]⟩)
  have c1' : w'.cell? ⟨t, 1, none⟩ = some (.slice (some ⟨g, 0, none⟩) n cap) := by rw [hw]; exact c1
  have e1' : w'.cell? ⟨g, i * 3 + 1, none⟩ = some (.bool true) := by rw [hw]; exact e1
  have e0' : w'.cell? ⟨g, i * 3, none⟩ = some (.int .i64 gen) := by rw [hw]; exact e0
  clear hw c0 c1 e1 e0
  go_wp2_with (go_quiet ((go_at_call 77; exact Calls.quiet_of (HG.out _))))
  go_ret2
  obtain ⟨m', rfl⟩ := HW.out
  exact ⟨rfl, _, World.drewN_drewN ..⟩

theorem find_got (t g n cap i : Nat) (kind h gen thing : Int) (xs : List Sl) (w : World) (H : TB w t g n cap kind xs) (hv : (if hokB h = true then hk h else 0) = kind) (hi : (if hokB h = true then hs h else -1) = (i : Int)) (hgg : (if hokB h = true then hg h else 0) = gen) (hx : xs[i]? = some ⟨gen, true, thing⟩) :
    Calls Tryd.prog 43 #[.pointer (some ⟨t, 0, none⟩), .int .i64 h] w fun e w' => e = .returned (.tuple #[.pointer (some ⟨g, i * 3, none⟩), .nilIface]) ∧ ∃ m, w' = w.drewN m := by
  have c0 := H.c0
  have c1 := H.c1
  have hin : i < n := by have := (List.getElem?_eq_some_iff.1 hx).1; have := H.len; omega
  have K := fun w => kind_q h kind w hv
  have HK := Lib.hid K
  have S := fun w => slot_q h i w hi
  have HS := Lib.hid S
  have G := fun w => gen_q h gen w hgg
  have HG := Lib.hid G
  have e1 : w.cell? ⟨g, i * 3 + 1, none⟩ = some (.bool true) := H.e1 hx
  have e0 : w.cell? ⟨g, i * 3, none⟩ = some (.int .i64 gen) := H.e0 hx
  have t0 : decide ((i : Int) < 0) = false := decide_eq_false (by omega)
  have t1 : decide (n ≤ i) = false := decide_eq_false (by omega)
  clear K S G H hv hi hgg hx
  go_enter Tryd.func43, Tryd.ntmps43
  go_wp2_with (go_quiet ((first | (go_at_call 75; exact Calls.quiet_of (HK.out _)))))
  go_wp2_with fail
  refine (HS.out _).mono ?_
  rintro e w' ⟨rfl, m, hw⟩
  have HW := Lib.hid (show ∃ m, w' = w.drewN m from ⟨_, by rw [hw, World.drewN_drewN]⟩)
  have c1' : w'.cell? ⟨t, 1, none⟩ = some (.slice (some ⟨g, 0, none⟩) n cap) := by rw [hw]; exact c1
  have e1' : w'.cell? ⟨g, i * 3 + 1, none⟩ = some (.bool true) := by rw [hw]; exact e1
  have e0' : w'.cell? ⟨g, i * 3, none⟩ = some (.int .i64 gen) := by rw [hw]; exact e0
  clear hw c0 c1 e1 e0
  go_wp2_with (go_quiet ((go_at_call 77; exact Calls.quiet_of (HG.out _))))
  go_ret2
  obtain ⟨m', rfl⟩ := HW.out
  exact ⟨rfl, _, World.drewN_drewN ..⟩

/-- The slot i bears the handle h. -/
def At (kind h : Int) (xs : List Sl) (i : Nat) (x : Sl) : Prop := xs[i]? = some x ∧ x.f1 = true ∧ mk kind i x.f0 = h
def NoAt (kind h : Int) (xs : List Sl) : Prop := ∀ (i : Nat) (x : Sl), ¬ At kind h xs i x

theorem at_or (kind h : Int) (xs : List Sl) : (∃ i x, At kind h xs i x) ∨ NoAt kind h xs := by
  by_cases e : ∃ i x, At kind h xs i x
  · exact .inl e
  · exact .inr (fun i x k => e ⟨i, x, k⟩)

theorem find_hit (t g n cap i : Nat) (kind h : Int) (xs : List Sl) (x : Sl) (w : World) (H : TB w t g n cap kind xs) (hT : Tk kind n xs) (ha : At kind h xs i x) :
    Calls Tryd.prog 43 #[.pointer (some ⟨t, 0, none⟩), .int .i64 h] w fun e w' => e = .returned (.tuple #[.pointer (some ⟨g, i * 3, none⟩), .nilIface]) ∧ ∃ m, w' = w.drewN m := by
  obtain ⟨hx, hf, he⟩ := ha
  have hi := (List.getElem?_eq_some_iff.1 hx).1
  have hl := H.len
  have hn := hT.n1
  have g1 := hT.gen i x hx
  have g2 := hT.top i x hx hf
  have p := hk_mk kind (i : Int) x.f0 (by omega) (by omega) (by omega) (by omega)
  rw [he] at p
  have ok : hokB h = true := by
    unfold hokB
    rw [p.1, p.2.1, p.2.2]
    have := hT.k0; have := hT.k3
    exact decide_eq_true (by omega)
  obtain ⟨gen, tk, thing⟩ := x
  obtain rfl : tk = true := hf
  exact find_got t g n cap i kind h gen thing xs w H (by rw [if_pos ok, p.1]) (by rw [if_pos ok, p.2.1]) (by rw [if_pos ok, p.2.2]) hx

theorem find_miss (t g n cap : Nat) (kind h : Int) (xs : List Sl) (w : World) (H : TB w t g n cap kind xs) (hT : Tk kind n xs) (hno : NoAt kind h xs) :
    Calls Tryd.prog 43 #[.pointer (some ⟨t, 0, none⟩), .int .i64 h] w fun e w' => e = .returned (.tuple #[.pointer none, .iface 85 (.int .i64 20)]) ∧ ∃ m, w' = w.drewN m := by
  have k0 := hT.k0
  have hl := H.len
  by_cases ok : hokB h = true ∧ hk h = kind
  · obtain ⟨ok, hkk⟩ := ok
    have r := hs_range h
    obtain ⟨i, hi⟩ : ∃ i : Nat, hs h = (i : Int) := ⟨(hs h).toNat, by omega⟩
    have hv : (if hokB h = true then hk h else 0) = kind := by rw [if_pos ok, hkk]
    have hs' : (if hokB h = true then hs h else -1) = (i : Int) := by rw [if_pos ok, hi]
    by_cases far : n ≤ i
    · exact find_far t g n cap i kind h xs w H hv hs' far
    · obtain ⟨⟨gen, tk, thing⟩, hx⟩ : ∃ x, xs[i]? = some x := ⟨xs[i], List.getElem?_eq_getElem (by omega)⟩
      cases tk with
      | false => exact find_free t g n cap i kind h gen thing xs w H hv hs' hx
      | true =>
        refine find_gen t g n cap i kind h gen thing (hg h) xs w H hv hs' (by rw [if_pos ok]) hx ?_
        have := hno i ⟨gen, true, thing⟩
        unfold At at this
        by_cases e : gen = hg h
        · exfalso
          refine this ⟨hx, rfl, ?_⟩
          show mk kind i gen = h
          rw [e, ← hi, ← hkk, mk_parts]
        · simpa using e
  · refine find_kind t g n cap kind h _ xs w H rfl ?_
    by_cases o : hokB h = true
    · rw [if_pos o]
      have : hk h ≠ kind := fun e => ok ⟨o, e⟩
      simpa using this
    · rw [if_neg o]
      simp; omega

end Go.Proofs.YtgjlkplieoajlaaDoor
