/- Of the text TR2 only what this claim needs (shake.py, this repo's). -/
import Derived.Test.YtgjlkplieoajlaaZTR1
set_option linter.unusedVariables false
set_option linter.unusedSimpArgs false
namespace Go.Proofs.Ytgjlkplieoajlaa
open Go.RowKit
open Go.Proofs.YtgjlkplieoajlaaW.PrintWords (Kd Drawn0 Kept rd rdOf)
open Go.Proofs.Ytgjlkplieoajlaa.PTreeWhole
set_option maxRecDepth 100000

theorem RH.new {W : World} {b : Nat} (z : Int) (hb : b ≤ W.heap.size) : RH (W.alloc (.cells #[.int .i64 z] 27)) b (.slice (some ⟨W.heap.size, 0, none⟩) 1 1) [z] :=
  Kd.R_of_own ⟨rfl, .inr ⟨W.heap.size, 1, #[.int .i64 z], rfl, hb, heap_alloc_new W _, Nat.le_refl _, by unfold maxLen; omega, rfl, rfl⟩⟩ (fun _ _ => trivial)
theorem thas_ok (q t g cap b n c : Nat) (L : List Int) (xs : List Nk) (w : World) (H : TRE w q t g cap xs) (hT : NM 1 64 xs) (hl : L.length = n) (hn : n ≤ 1000)
    (hc : ∀ (i : Nat) (x : Int), L[i]? = some x → w.cell? ⟨b, i, none⟩ = some (.int .i64 x)) (hall : ∀ x ∈ L, ∃ i y, NAt 1 x xs i y) :
    Calls Try.prog 20 #[.pointer (some ⟨q, 0, none⟩), .slice (some ⟨b, 0, none⟩) n c] w fun e w' => e = .returned .nilIface ∧ Below w.heap.size w w' := by
  have HH := Lib.hid H
  have HT := Lib.hid hT
  have HC := Lib.hid hc
  have HA := Lib.hid hall
  have HL := Lib.hid hl
  clear H hT hc hall hl
  go_enter Try.func20, Try.ntmps20
  go_wp2_with fail
  go_loopw [11] (fun i wr => ∃ k : Nat, k ≤ n ∧ i = .int .i64 k ∧ Hid (Below w.heap.size w wr)) (fun i _ => n - (intOf i).toNat)
  case atStart => exact ⟨0, Nat.zero_le _, rfl, Lib.hid (Below.refl _ _)⟩
  case round =>
    obtain ⟨k, hk, rfl, hB⟩ := hrel
    by_cases hlt : k < n
    · obtain ⟨x, hx⟩ : ∃ x, L[k]? = some x := ⟨_, List.getElem?_eq_getElem (by have := HL.out; omega)⟩
      have c1 := keep hB.out (HC.out k x hx)
      obtain ⟨i, y, ha⟩ := HA.out x (List.mem_of_getElem? hx)
      have H2 := HH.out.below hB.out
      have c0 := H2.c0
      have G := Lib.hid (nget_hit t g 64 cap i 1 x xs y wr H2.nt HT.out ha)
      clear H2 ha hx
      go_wp2_with fail
      refine G.out.mono ?_
      rintro e w1 ⟨rfl, hb⟩
      have HB1 := Lib.hid (below_alloc (below_call hB.out (Nat.le_refl _) hb) (Nat.le_refl _) (.cells #[.int .i64 y.p] 50))
      clear hb
      go_wp2
      go_roundw
      case rel => exact ⟨k + 1, by omega, by go_num, HB1⟩
      case measure => simp [intOf]; omega
    · go_wp2
      go_ret
      exact ⟨rfl, hB.out⟩

/-- has of one handle, as the methods call it. -/
theorem thas1 (q t g cap : Nat) (z : Int) (xs : List Nk) (w : World) (H : TRE w q t g cap xs) (hT : NM 1 64 xs) (i : Nat) (y : Nk) (ha : NAt 1 z xs i y) :
    Calls Try.prog 20 #[.pointer (some ⟨q, 0, none⟩), .slice (some ⟨w.heap.size, 0, none⟩) 1 1] (w.alloc (.cells #[.int .i64 z] 27)) fun e w' => e = .returned .nilIface ∧ Below w.heap.size w w' := by
  have hb0 := (Below.refl w.heap.size w).alloc (Nat.le_refl _) (.cells #[.int .i64 z] 27)
  refine (thas_ok q t g cap w.heap.size 1 1 [z] xs _ (H.below hb0) hT rfl (by omega) (fun i x hx => ?_) (fun x hx => ?_)).mono ?_
  · cases i with
    | zero =>
      have : z = x := by simpa using hx
      subst this
      exact cell_new _ _ _
    | succ i => simp at hx
  · have : x = z := by simpa using hx
    subst this
    exact ⟨i, y, ha⟩
  · rintro e w' ⟨rfl, hb⟩
    exact ⟨rfl, below_call hb0 (Nat.le_refl _) hb⟩
def kidsK (xs : List Nk) (h : Int) (k : Nat) : List Int := (((tkN 0 xs).take k).filter fun q => decide (q.2.p = h)).map fun q => mk 1 q.1 q.2.f0
theorem kidsK_succ {xs : List Nk} {h : Int} {k i : Nat} {x : Nk} (hx : (tkN 0 xs)[k]? = some (i, x)) : kidsK xs h (k + 1) = if x.p = h then kidsK xs h k ++ [mk 1 i x.f0] else kidsK xs h k := by
  unfold kidsK
  rw [List.take_add_one, hx]
  simp only [Option.toList_some, List.filter_append, List.map_append]
  by_cases e : x.p = h
  · rw [if_pos e, List.filter_cons_of_pos (by simpa using e)]; rfl
  · rw [if_neg e, List.filter_cons_of_neg (by simpa using e)]; simp
theorem kidsK_all (xs : List Nk) (h : Int) {k : Nat} (hk : (tkN 0 xs).length ≤ k) : kidsK xs h k = kidsF xs h := by unfold kidsK kidsF; rw [List.take_of_length_le hk]
theorem kidsK_len (xs : List Nk) (h : Int) (k : Nat) : (kidsK xs h k).length ≤ k := by
  unfold kidsK
  rw [List.length_map]
  have h1 := List.length_filter_le (fun q : Nat × Nk => decide (q.2.p = h)) ((tkN 0 xs).take k)
  have h2 := List.length_take_le k (tkN 0 xs)
  omega
theorem tkN_at {xs : List Nk} {k i : Nat} {x : Nk} (h : (tkN 0 xs)[k]? = some (i, x)) : NAt 1 (mk 1 i x.f0) xs i x := by
  obtain ⟨h1, h2, h3⟩ := (tkN_mem xs 0 i x).1 (List.mem_of_getElem? h)
  exact ⟨by simpa using h2, h3, rfl⟩
theorem nall_at {xs : List Nk} {k i : Nat} {x : Nk} (h : (tkN 0 xs)[k]? = some (i, x)) : (nallH 1 xs)[k]? = some (mk 1 i x.f0) := by
  unfold nallH
  rw [nallF_tkN, List.getElem?_map, h]
  rfl
theorem nall_len (xs : List Nk) : (nallH 1 xs).length = (tkN 0 xs).length := by unfold nallH; rw [nallF_tkN, List.length_map]

set_option maxHeartbeats 2000000 in
theorem tkids_ok (q t g cap : Nat) (z : Int) (xs : List Nk) (w : World) (H : TRE w q t g cap xs) (hT : NM 1 64 xs) (i0 : Nat) (y0 : Nk) (ha : NAt 1 z xs i0 y0) :
    Calls Try.prog 8 #[.pointer (some ⟨q, 0, none⟩), .int .i64 z] w fun e w' => ∃ v, e = .returned (.tuple #[v, .nilIface]) ∧ RH w' w.heap.size v (kidsF xs z) ∧ Below w.heap.size w w' := by
  have HS := Lib.hid (thas1 q t g cap z xs w H hT i0 y0 ha)
  have HH := Lib.hid H
  have HT := Lib.hid hT
  clear H hT ha
  go_enter Try.func8, Try.ntmps8
  go_wp2_with fail
  refine HS.out.mono ?_
  rintro e w1 ⟨rfl, hb1⟩
  have HB1 := Lib.hid hb1
  have H1 := HH.out.below hb1
  have c0 := H1.c0
  have HA := Lib.hid (nall_ok t g 64 cap 1 xs w1 H1.nt HT.out)
  clear hb1 H1
  go_wp2_with fail
  refine HA.out.mono ?_
  rintro e w2 ⟨v, rfl, hR, hb2⟩
  obtain ⟨A, c, rfl⟩ := Kd.R_slice hR
  obtain ⟨n, hn⟩ : ∃ n, n = (nallH 1 xs).length := ⟨_, rfl⟩
  have HN : Hid (n = (tkN 0 xs).length ∧ n ≤ 64) := Lib.hid ⟨by rw [hn, nall_len], by rw [hn, nall_len]; have := tkN_len xs 0; have := HT.out.len; omega⟩
  rw [← hn] at hR ⊢
  have HR := Lib.hid hR
  have HB2 := Lib.hid (below_call HB1.out (Nat.le_refl _) hb2)
  have hn64 : n ≤ 64 := HN.out.2
  clear hR hb2 hn HA c0
  go_wp2_with fail
  go_loopw [7, 25] (fun u i wr => ∃ k : Nat, k ≤ n ∧ i = .int .i64 k ∧ Hid (RH wr w2.heap.size u (kidsK xs z k)) ∧ Hid (Below w2.heap.size w2 wr)) (fun _ i _ => n - (intOf i).toNat)
  case atStart => exact ⟨0, Nat.zero_le _, rfl, Lib.hid (Kd.R_nil _ _ _ _ _), Lib.hid (Below.refl _ _)⟩
  case round =>
    obtain ⟨k, hk, rfl, hRk, hB⟩ := hrel
    by_cases hlt : k < n
    · obtain ⟨⟨i, x⟩, hx⟩ : ∃ q, (tkN 0 xs)[k]? = some q := ⟨_, List.getElem?_eq_getElem (by have := HN.out.1; omega)⟩
      have hs := tkN_at hx
      obtain ⟨gh, cp, cur, e1, -, -, hcell⟩ : ∃ g cap cur, (Value.slice A n c) = .slice (some ⟨g, 0, none⟩) (nallH 1 xs).length cap ∧ w1.heap.size ≤ g ∧ w2.heap[g]? = some (.cells cur 27 (0, 0)) ∧ ∀ (i : Nat) (x : Int), (nallH 1 xs)[i]? = some x → w2.cell? ⟨g, i, none⟩ = some (.int .i64 x) := by
        rcases rowH_form HR.out with ⟨e, el⟩ | h
        · have := (List.getElem?_eq_some_iff.1 hx).1
          rw [← nall_len, el] at this
          simp at this
        · exact h
      have hc := keep hB.out (hcell k _ (nall_at hx))
      have e2 : A = some ⟨gh, 0, none⟩ := by injection e1
      subst e2
      have H3 := HH.out.below (below_call HB2.out (Nat.le_refl _) hB.out)
      have c0 := H3.c0
      have HG := Lib.hid (nget_hit t g 64 cap i 1 (mk 1 i x.f0) xs x wr H3.nt HT.out hs)
      obtain ⟨hh, hhh⟩ : ∃ y, y = mk 1 i x.f0 := ⟨_, rfl⟩
      have KS := kidsK_succ (h := z) hx
      rw [← hhh] at HG hc KS
      have HKS := Lib.hid KS
      clear hs e1 hcell H3 hhh hx KS
      go_wp2_with fail
      refine HG.out.mono ?_
      rintro e w3 ⟨rfl, hb3⟩
      have HB4 := Lib.hid (below_alloc (below_call hB.out (Nat.le_refl _) hb3) (Nat.le_refl _) (.cells #[.int .i64 x.p] 50))
      have HR4 := Lib.hid (Kd.R_alloc (Kd.R_below hRk.out hb3) (.cells #[.int .i64 x.p] 50))
      have hk4 : (w3.alloc (.cells #[.int .i64 x.p] 50)).cell? ⟨w3.heap.size, 0, none⟩ = some (.int .i64 x.p) := cell_new _ _ _
      clear hb3 hRk hB hc
      by_cases e : x.p = z
      · have k1 : (x.p == z) = true := by rw [beq_iff_eq]; exact e
        have k1' : decide (x.p = z) = true := decide_eq_true e
        have HK : Hid (kidsK xs z (k + 1) = kidsK xs z k ++ [hh]) := Lib.hid (by rw [HKS.out, if_pos e])
        have hle := kidsK_len xs z k
        clear e
        go_wp2_with (first
          | (at_builtin; go_loud (refine Kd.R_append (Kd.int .i64) (w0 := w2) w2.heap.size rfl (.tmp 42) (.tmp 44) 25 27 (.int .i64 0) 8 rfl Try.underlying25 infoH rfl (by decide) (by omega) _ (kidsK xs z k) hh [.int .i64 hh] (fun _ => True) (fun _ => False) rfl (by show Value.slice (some ⟨w3.heap.size + 1, 0, none⟩) 1 1 = _; simp) rfl (fun _ hk => hk.elim) (fun _ _ => trivial) HR4.out HB4.out (by have := HB4.out.size; omega) (by omega) ?_); intro v5 w5 hR5 hB5 hg5 hat5)
          | fail)
        have HR5 : Hid (RH w5 w2.heap.size v5 (kidsK xs z (k + 1))) := Lib.hid (by rw [HK.out]; exact hR5)
        have HB5 := Lib.hid hB5
        clear hR5 hB5 hg5 hat5
        go_wp2
        go_roundw
        case rel => exact ⟨k + 1, by omega, by go_num, HR5, HB5⟩
        case measure => simp [intOf]; omega
      · have k1 : (x.p == z) = false := by rw [beq_eq_false_iff_ne]; exact e
        have k1' : decide (x.p = z) = false := decide_eq_false e
        have HK : Hid (kidsK xs z (k + 1) = kidsK xs z k) := Lib.hid (by rw [HKS.out, if_neg e])
        clear e
        go_wp2
        go_roundw
        case rel => exact ⟨k + 1, by omega, by go_num, Lib.hid (by rw [HK.out]; exact HR4.out), HB4⟩
        case measure => simp [intOf]; omega
    · have hkn : (tkN 0 xs).length ≤ k := by have := HN.out.1; omega
      have HK := Lib.hid (kidsK_all xs z hkn)
      have HB3 := Lib.hid (below_call HB2.out (Nat.le_refl _) hB.out)
      have HRR : Hid (RH wr w.heap.size _ (kidsF xs z)) := Lib.hid (by have := Kd.R_lower hRk.out HB2.out.size; rw [HK.out] at this; exact this)
      clear hkn
      go_wp2
      go_ret2
      exact ⟨_, rfl, HRR.out, HB3.out⟩

end Go.Proofs.Ytgjlkplieoajlaa
