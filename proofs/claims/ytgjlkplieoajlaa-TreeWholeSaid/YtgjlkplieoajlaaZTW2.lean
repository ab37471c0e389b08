/- Of the text TW2 only what this claim needs (shake.py, this repo's). -/
import Derived.Test.YtgjlkplieoajlaaZTO0
import Derived.Test.YtgjlkplieoajlaaZTW1
set_option linter.unusedVariables false
set_option linter.unusedSimpArgs false
namespace Go.Proofs.Ytgjlkplieoajlaa
open Go.RowKit
open Go.Proofs.YtgjlkplieoajlaaW.PrintWords (Kd Drawn0 Kept rd rdOf)
open Go.Proofs.Ytgjlkplieoajlaa.PTreeWhole
set_option maxRecDepth 100000

set_option maxHeartbeats 2000000 in
theorem tremove_ok {xs : List Nk} {dep : Nat → Nat} (hI : TI xs dep) (q t g cap j : Nat) (z : Int) (y : Nk) (w : World) (H : TRE w q t g cap xs) (ha : NAt 1 z xs j y) (hr : z ≠ rootH) :
    Calls Try.prog 13 #[.pointer (some ⟨q, 0, none⟩), .int .i64 z] w fun e w' => ∃ v ys, e = .returned (.tuple #[v, .nilIface]) ∧ RH w' w.heap.size v (walkF xs 8 z) ∧ TRE w' q t g cap ys ∧ DR xs (walkF xs 8 z) ys ∧ Chg (fun k => k = g) w w' := by
  have HS := Lib.hid (thas1 q t g cap z xs w H hI.nm j y ha)
  have HW := Lib.hid (fun W (hT : TRE W q t g cap xs) => twalk_ok hI 8 z j y ha (by omega) q t g cap W.heap.size [] (.slice none 0 0) W hT (Kd.R_nil _ _ _ _ _) (Nat.le_refl _) (by have := hI.walk_len 8 ha; simp only [List.length_nil]; omega))
  have HH := Lib.hid H
  have k1 : (z == rootH) = false := by rw [beq_eq_false_iff_ne]; exact hr
  have k1' : decide (z = rootH) = false := decide_eq_false hr
  obtain ⟨r, hrr⟩ : ∃ r, r = rootH := ⟨_, rfl⟩
  have c1 : ∀ W, Below w.heap.size w W → W.cell? ⟨q, 1, none⟩ = some (.int .i64 r) := fun W hB => by rw [hrr]; exact (HH.out.below hB).c1
  rw [← hrr] at k1 k1'
  have HC1 := Lib.hid c1
  have HI := Lib.hid hI
  obtain ⟨L, hL⟩ : ∃ L, L = walkF xs 8 z := ⟨_, rfl⟩
  have HLL := Lib.hid hL
  have hnd := hI.walk_nodup 8 z j y ha
  have hat := hI.walk_at 8 z j y ha
  have hll := hI.walk_len 8 ha
  rw [← hL] at hnd hat hll HW
  obtain ⟨n, hn⟩ : ∃ n, n = L.length := ⟨_, rfl⟩
  have HN := Lib.hid hn
  have HND := Lib.hid hnd
  have HAT := Lib.hid hat
  have hn64 : n ≤ 64 := by omega
  clear H hI ha hr hrr c1 hL hnd hat hll hn
  go_enter Try.func13, Try.ntmps13
  go_wp2_with fail
  refine HS.out.mono ?_
  rintro e w1 ⟨rfl, hb1⟩
  have c1 := HC1.out w1 hb1
  have HH1 := Lib.hid (HH.out.below hb1)
  have HB1 := Lib.hid hb1
  clear hb1
  go_wp2_with fail
  refine (HW.out w1 HH1.out).mono ?_
  rintro e w2 ⟨v, rfl, hR, hC, -⟩
  have hb2 : Below w1.heap.size w1 w2 := ⟨hC.os, hC.tape, hC.output, hC.size, fun m hm => hC.block m hm (fun e => by simp [Value.ownBlock] at e)⟩
  rw [List.nil_append] at hR
  have HR2 := Lib.hid (Kd.R_lower hR HB1.out.size)
  obtain ⟨A, c, rfl⟩ := Kd.R_slice hR
  rw [← HN.out] at HR2 ⊢
  have HH2 := Lib.hid (HH1.out.below hb2)
  have HB2 := Lib.hid (below_call HB1.out (Nat.le_refl _) hb2)
  clear hR hC hb2 HH1 c1
  go_wp2_with fail
  go_loopw [29] (fun i wr => ∃ (k : Nat) (ys : List Nk), k ≤ n ∧ i = .int .i64 k ∧ Hid (DR xs (L.take k) ys) ∧ Hid (TRE wr q t g cap ys) ∧ Hid (Chg (fun k => k = g) w2 wr) ∧ Hid (RH wr w.heap.size (.slice A n c) L)) (fun i _ => n - (intOf i).toNat)
  case atStart => exact ⟨0, xs, Nat.zero_le _, rfl, Lib.hid (DR.start xs), HH2, Lib.hid (Chg.refl _ _), HR2⟩
  case round =>
    clear HH2 HR2
    obtain ⟨k, ys, hk, rfl, hD, hT, hC, hR⟩ := hrel
    by_cases hlt : k < n
    · obtain ⟨x, hx⟩ : ∃ x, L[k]? = some x := ⟨_, List.getElem?_eq_getElem (by have := HN.out; omega)⟩
      obtain ⟨i, u, -, hax, -⟩ := HAT.out x (List.mem_of_getElem? hx)
      obtain ⟨gh, rfl, hc⟩ := (RH.rd hR.out).at hx
      have htk : L.take (k + 1) = L.take k ++ [x] := by rw [List.take_add_one, hx]; rfl
      have hnx : x ∉ L.take k := by
        have := HND.out
        rw [← List.take_append_drop (k + 1) L, htk] at this
        have := (List.nodup_append.1 this).1
        have := (List.nodup_append.1 this).2.2
        exact fun hm => this x hm x (by simp) rfl
      have hy := hD.out.keep HI.out.nm hax hnx
      have hnm := hD.out.nm HI.out.nm (fun z hz => by
        obtain ⟨i, x, -, h, -⟩ := HAT.out z (List.mem_of_mem_take hz)
        exact ⟨i, x, h⟩)
      have HDR := Lib.hid (ndrop_hit t g 64 cap i 1 x ys u wr hT.out.nt hnm hy)
      have HD' : Hid (DR xs (L.take (k + 1)) (ys.set i (noNk (u.f0 + 1)))) := Lib.hid (by rw [htk]; exact hD.out.step HI.out.nm hax hnx)
      have c0 := hT.out.c0
      clear hx hax htk hnx hy hnm hD
      go_wp2_with fail
      refine HDR.out.mono ?_
      rintro e w3 ⟨rfl, hT3, hC3⟩
      have HT3 := Lib.hid (hT.out.put hC3 hT3)
      have HC3 := Lib.hid (hC.out.trans hC3)
      have HR3 := Lib.hid (rowH_chg hR.out hC3 (fun m cs _ hm => (hT.out.hnd hm).2.2))
      clear hT3 hC3 hT hC hR
      go_wp2
      go_roundw
      case rel => exact ⟨k + 1, _, by omega, by go_num, HD', HT3, HC3, HR3⟩
      case measure => simp [intOf]; omega
    · have hkl : L.length ≤ k := by have := HN.out; omega
      have HDD : Hid (DR xs L ys) := Lib.hid (by have := hD.out; rwa [List.take_of_length_le hkl] at this)
      have HCC := Lib.hid ((Chg.ofBelow HB2.out (fun k => k = g)).trans hC.out)
      clear hkl
      go_wp2
      go_ret2
      exact ⟨_, ys, rfl, by rw [← HLL.out]; exact hR.out, hT.out, by rw [← HLL.out]; exact HDD.out, HCC.out⟩

theorem tremove_root {xs : List Nk} {dep : Nat → Nat} (hI : TI xs dep) (q t g cap : Nat) (w : World) (H : TRE w q t g cap xs) :
    Calls Try.prog 13 #[.pointer (some ⟨q, 0, none⟩), .int .i64 rootH] w fun e w' => e = .returned (.tuple #[.slice none 0 0, .iface 55 (.int .i64 91)]) ∧ Below w.heap.size w w' := by
  have HS := Lib.hid (thas1 q t g cap rootH xs w H hI.nm 0 _ hI.rootAt)
  have HH := Lib.hid H
  obtain ⟨r, hr⟩ : ∃ r, r = rootH := ⟨_, rfl⟩
  have c1 : ∀ W, Below w.heap.size w W → W.cell? ⟨q, 1, none⟩ = some (.int .i64 r) := fun W hB => by rw [hr]; exact (HH.out.below hB).c1
  rw [← hr] at HS ⊢
  have HC := Lib.hid c1
  clear c1 hr hI H
  go_enter Try.func13, Try.ntmps13
  go_wp2_with fail
  refine HS.out.mono ?_
  rintro e w1 ⟨rfl, hb1⟩
  have c1 := HC.out w1 hb1
  have HB := Lib.hid hb1
  clear hb1
  go_wp2
  go_ret2
  exact ⟨rfl, HB.out⟩
/-- Remove at a node that is there: its subtree goes, or the error. -/
theorem tremove_any {xs : List Nk} {dep : Nat → Nat} (hI : TI xs dep) (q t g cap j : Nat) (z : Int) (y : Nk) (w : World) (H : TRE w q t g cap xs) (ha : NAt 1 z xs j y) :
    Calls Try.prog 13 #[.pointer (some ⟨q, 0, none⟩), .int .i64 z] w fun e w' => ∃ a b ys dep', e = .returned (.tuple #[a, b]) ∧ TRE w' q t g cap ys ∧ TI ys dep' ∧ Chg (fun k => k = g) w w' := by
  by_cases hr : z = rootH
  · subst hr
    refine (tremove_root hI q t g cap w H).mono ?_
    rintro e w' ⟨rfl, hb⟩
    exact ⟨_, _, xs, dep, rfl, H.below hb, hI, Chg.ofBelow hb _⟩
  · refine (tremove_ok hI q t g cap j z y w H ha hr).mono ?_
    rintro e w' ⟨v, ys, rfl, -, hT, hD, hC⟩
    exact ⟨_, _, ys, dep, rfl, hT, hI.remove ha hr hD, hC⟩

theorem tparent_ok (q t g cap i : Nat) (z : Int) (xs : List Nk) (x : Nk) (w : World) (H : TRE w q t g cap xs) (hT : NM 1 64 xs) (ha : NAt 1 z xs i x) :
    Calls Try.prog 15 #[.pointer (some ⟨q, 0, none⟩), .int .i64 z] w fun e w' => e = .returned (.tuple #[.int .i64 x.p, .nilIface]) ∧ Below w.heap.size w w' := by
  have HS := Lib.hid (thas1 q t g cap z xs w H hT i x ha)
  have HG := Lib.hid (fun W (hB : Below w.heap.size w W) => nget_hit t g 64 cap i 1 z xs x W (H.below hB).nt hT ha)
  have HH := Lib.hid H
  clear H hT ha
  go_enter Try.func15, Try.ntmps15
  go_wp2_with fail
  refine HS.out.mono ?_
  rintro e w1 ⟨rfl, hb1⟩
  have c0 := (HH.out.below hb1).c0
  have HB1 := Lib.hid hb1
  clear hb1
  go_wp2_with fail
  refine (HG.out w1 HB1.out).mono ?_
  rintro e w2 ⟨rfl, hb2⟩
  have HB2 := Lib.hid (below_alloc (below_call HB1.out (Nat.le_refl _) hb2) (Nat.le_refl _) (.cells #[.int .i64 x.p] 50))
  have hk2 : (w2.alloc (.cells #[.int .i64 x.p] 50)).cell? ⟨w2.heap.size, 0, none⟩ = some (.int .i64 x.p) := cell_new _ _ _
  clear hb2 c0
  go_wp2
  go_ret2
  exact ⟨rfl, HB2.out⟩

def comF (lx ly : List Int) : Nat → Int
  | 0 => rootH
  | k + 1 => if lx[k]? = ly[k]? then lx.getD k 0 else comF lx ly k
theorem path_at {xs : List Nk} {dep : Nat → Nat} (h : TI xs dep) {z : Int} {l : List Int} (hp : PathIs xs z l) : ∀ (k : Nat) (b : Int), l[k]? = some b → ∃ i x, NAt 1 b xs i x ∧ dep i = k := by
  induction hp with
  | root =>
    intro k b hb
    have hk : k = 0 := by have := (List.getElem?_eq_some_iff.1 hb).1; simp at this; omega
    subst hk
    have : rootH = b := by simpa using hb
    subst this
    exact ⟨0, _, h.rootAt, h.d0⟩
  | @step z i x l0 ha hi hp ih =>
    intro k b hb
    by_cases c : k < l0.length
    · rw [List.getElem?_append_left c] at hb
      exact ih k b hb
    · have hle : k = l0.length := by have := (List.getElem?_eq_some_iff.1 hb).1; simp at this; omega
      rw [List.getElem?_append_right (by omega), hle, Nat.sub_self] at hb
      have : z = b := by simpa using hb
      subst this
      have := h.path_len ha (.step ha hi hp)
      simp at this
      exact ⟨i, x, ha, by omega⟩
theorem path_head {xs : List Nk} {z : Int} {l : List Int} (hp : PathIs xs z l) : l[0]? = some rootH := by
  induction hp with
  | root => rfl
  | step _ _ hp ih =>
    rw [List.getElem?_append_left (List.getElem?_eq_some_iff.1 ih).1]
    exact ih
theorem com_wi {xs : List Nk} {dep : Nat → Nat} (h : TI xs dep) {z top : Int} {i j : Nat} {x y : Nk} {lx ly : List Int} (ha : NAt 1 z xs i x) (hb : NAt 1 top xs j y) (hx : PathIs xs z lx) (hy : PathIs xs top ly) :
    (comF lx ly (min lx.length ly.length) == top) = wiB xs (dep j) top z := by
  have hly := h.path_len hb hy
  have hlast := hy.last
  rw [hly, Nat.add_sub_cancel] at hlast
  rw [Bool.eq_iff_iff, beq_iff_eq, h.wi ha hx]
  constructor
  · intro hc
    have gen : ∀ m, comF lx ly m = top → (∃ k : Nat, lx[k]? = ly[k]? ∧ lx[k]? = some top) ∨ top = rootH := by
      intro m
      induction m with
      | zero => exact fun e => .inr e.symm
      | succ m ih =>
        intro e
        unfold comF at e
        by_cases c : lx[m]? = ly[m]?
        · rw [if_pos c] at e
          cases hl : lx[m]? with
          | some v =>
            rw [List.getD_eq_getElem?_getD, hl] at e
            exact .inl ⟨m, c, by rw [hl]; exact congrArg some e⟩
          | none =>
            rw [List.getD_eq_getElem?_getD, hl] at e
            exact absurd e.symm (nat_slot h.nm hb).2
        · rw [if_neg c] at e
          exact ih e
    rcases gen _ hc with ⟨k, h1, h2⟩ | e
    · rw [h1] at h2
      obtain ⟨m, u, hm, hd⟩ := path_at h hy k top h2
      obtain ⟨rfl, -⟩ := nat_uniq h.nm hm hb
      rw [hd, h1, h2]
    · subst e
      obtain ⟨rfl, -⟩ := nat_uniq h.nm h.rootAt hb
      rw [h.d0]
      exact path_head hx
  · intro hd
    have hlt := (List.getElem?_eq_some_iff.1 hd).1
    rw [hly, show min lx.length (dep j + 1) = dep j + 1 by omega]
    unfold comF
    rw [if_pos (by rw [hd, hlast]), List.getD_eq_getElem?_getD, hd]
    rfl

theorem thas2 (q t g cap : Nat) (a b : Int) (xs : List Nk) (w : World) (H : TRE w q t g cap xs) (hT : NM 1 64 xs) (i j : Nat) (x y : Nk) (ha : NAt 1 a xs i x) (hb : NAt 1 b xs j y) :
    Calls Try.prog 20 #[.pointer (some ⟨q, 0, none⟩), .slice (some ⟨w.heap.size, 0, none⟩) 2 2] (w.alloc (.cells #[.int .i64 a, .int .i64 b] 27)) fun e w' => e = .returned .nilIface ∧ Below w.heap.size w w' := by
  have hb0 := (Below.refl w.heap.size w).alloc (Nat.le_refl _) (.cells #[.int .i64 a, .int .i64 b] 27)
  obtain ⟨k, hk⟩ : ∃ k, k = w.heap.size := ⟨_, rfl⟩
  have hc : (w.alloc (.cells #[.int .i64 a, .int .i64 b] 27)).heap[k]? = some (.cells #[.int .i64 a, .int .i64 b] 27 (0, 0)) := by rw [hk]; exact heap_alloc_new w _
  rw [← hk]
  refine (thas_ok q t g cap k 2 2 [a, b] xs _ (H.below hb0) hT rfl (by omega) (fun i x hx => ?_) (fun x hx => ?_)).mono ?_
  · match i with
    | 0 =>
      have : a = x := by simpa using hx
      subst this
      simp [World.cell?, hc]
    | 1 =>
      have : b = x := by simpa using hx
      subst this
      simp [World.cell?, hc]
    | i + 2 => simp at hx
  · rcases List.mem_cons.1 hx with rfl | hx
    · exact ⟨i, _, ha⟩
    · have : x = b := by simpa using hx
      subst this
      exact ⟨j, y, hb⟩
  · rintro e w' ⟨rfl, hb⟩
    exact ⟨rfl, by rw [hk]; exact below_call hb0 (Nat.le_refl _) hb⟩
set_option maxHeartbeats 2000000 in
theorem tcommon_ok {xs : List Nk} {dep : Nat → Nat} (hI : TI xs dep) (q t g cap i j : Nat) (a b : Int) (x y : Nk) (lx ly : List Int) (w : World) (H : TRE w q t g cap xs) (ha : NAt 1 a xs i x) (hb : NAt 1 b xs j y) (hx : PathIs xs a lx) (hy : PathIs xs b ly) :
    Calls Try.prog 24 #[.pointer (some ⟨q, 0, none⟩), .int .i64 a, .int .i64 b] w fun e w' => e = .returned (.tuple #[.int .i64 (comF lx ly (min lx.length ly.length)), .nilIface]) ∧ Below w.heap.size w w' := by
  have HS := Lib.hid (thas2 q t g cap a b xs w H hI.nm i j x y ha hb)
  have HH := Lib.hid H
  have HX := Lib.hid (fun W (hB : Below w.heap.size w W) => tpath_ok hI hx q t g cap W (H.below hB))
  have HY := Lib.hid (fun W (hB : Below w.heap.size w W) => tpath_ok hI hy q t g cap W (H.below hB))
  have l1 := hI.path_len ha hx
  have l2 := hI.path_len hb hy
  have l3 := hI.le i x ha.1 ha.2.1
  have l4 := hI.le j y hb.1 hb.2.1
  obtain ⟨n1, hn1⟩ : ∃ n, n = lx.length := ⟨_, rfl⟩
  obtain ⟨n2, hn2⟩ : ∃ n, n = ly.length := ⟨_, rfl⟩
  obtain ⟨m, hm⟩ : ∃ m, m = min n1 n2 := ⟨_, rfl⟩
  have hmb : m ≤ 9 ∧ m ≤ n1 ∧ m ≤ n2 ∧ n1 ≤ 9 ∧ n2 ≤ 9 := by omega
  have hmm : (if (n1 : Int) < (n2 : Int) then (n1 : Int) else (n2 : Int)) = (m : Int) := by split <;> omega
  have hmm' : min (n1 : Int) (n2 : Int) = (m : Int) := by omega
  have hmm2 : (if (n2 : Int) < (n1 : Int) then (n2 : Int) else (n1 : Int)) = (m : Int) := by split <;> omega
  have H1 := Lib.hid hn1
  have H2 := Lib.hid hn2
  have HM := Lib.hid hm
  obtain ⟨r, hr⟩ : ∃ r, r = rootH := ⟨_, rfl⟩
  have c1 : ∀ W, Below w.heap.size w W → W.cell? ⟨q, 1, none⟩ = some (.int .i64 r) := fun W hB => by rw [hr]; exact (HH.out.below hB).c1
  have HC1 := Lib.hid c1
  have HR := Lib.hid hr
  clear H hI ha hb hx hy l1 l2 l3 l4 hn1 hn2 hm c1 hr
  go_enter Try.func24, Try.ntmps24
  go_wp2_with fail
  refine HS.out.mono ?_
  rintro e w1 ⟨rfl, hb1⟩
  have HB1 := Lib.hid hb1
  clear hb1
  go_wp2_with fail
  refine (HX.out w1 HB1.out).mono ?_
  rintro e w2 ⟨v2, rfl, hR2, hb2⟩
  obtain ⟨A2, c2, rfl⟩ := Kd.R_slice hR2
  rw [← H1.out] at hR2 ⊢
  have HR2 := Lib.hid (RH.rd hR2)
  have HB2 := Lib.hid (below_call HB1.out (Nat.le_refl _) hb2)
  clear hR2 hb2
  go_wp2_with fail
  refine (HY.out w2 HB2.out).mono ?_
  rintro e w3 ⟨v3, rfl, hR3, hb3⟩
  obtain ⟨A3, c3, rfl⟩ := Kd.R_slice hR3
  rw [← H2.out] at hR3 ⊢
  have HR3 := Lib.hid (RH.rd hR3)
  have HR23 := Lib.hid (HR2.out.below hb3)
  have HB3 := Lib.hid (below_call HB2.out (Nat.le_refl _) hb3)
  have c1 := HC1.out w3 HB3.out
  clear hR3 hb3 HR2
  go_wp2_with fail
  all_goals
    first
      | (have hq : m = n2 := by omega
         subst hq)
      | (have hq : m = n1 := by omega
         subst hq)
    go_loopw [13, 44] (fun u i wr => ∃ (k : Nat) (la : Int), k ≤ m ∧ u = .int .i64 la ∧ i = .int .i64 k ∧ Hid (la = comF lx ly k) ∧ Hid (Below w3.heap.size w3 wr)) (fun _ i _ => m - (intOf i).toNat)
    case atStart => exact ⟨0, r, Nat.zero_le _, rfl, rfl, Lib.hid HR.out, Lib.hid (Below.refl _ _)⟩
    case round =>
      obtain ⟨k, la, hk, rfl, rfl, hla, hB⟩ := hrel
      by_cases hlt : k < m
      · try have hk1 : k < n1 := by omega
        try have hk2 : k < n2 := by omega
        obtain ⟨u, hu⟩ : ∃ u, lx[k]? = some u := ⟨_, List.getElem?_eq_getElem (by have := H1.out; omega)⟩
        obtain ⟨v, hv⟩ : ∃ v, ly[k]? = some v := ⟨_, List.getElem?_eq_getElem (by have := H2.out; omega)⟩
        obtain ⟨g2, rfl, e2⟩ := HR23.out.at hu
        obtain ⟨g3, rfl, e3⟩ := HR3.out.at hv
        have e2' := keep hB.out e2
        have e3' := keep hB.out e3
        by_cases c : u = v
        · subst c
          have HST : Hid (u = comF lx ly (k + 1)) := Lib.hid (by
            unfold comF
            rw [if_pos (by rw [hu, hv]), List.getD_eq_getElem?_getD, hu]
            rfl)
          clear hu hv e2 e3
          go_wp2_with fail
          go_quiet (fail)
          go_wp2_with fail
          go_roundw
          case rel => exact ⟨k + 1, u, by omega, rfl, by go_num, HST, Lib.hid (below_drewN' hB.out _)⟩
          case measure => simp [intOf]; omega
        · have k1 : (u == v) = false := by rw [beq_eq_false_iff_ne]; exact c
          have k1' : decide (u = v) = false := decide_eq_false c
          have HST : Hid (la = comF lx ly (k + 1)) := Lib.hid (by
            unfold comF
            rw [if_neg (by rw [hu, hv]; simpa using c)]
            exact hla.out)
          clear hu hv e2 e3 c
          go_wp2_with fail
          go_quiet (fail)
          go_wp2_with fail
          go_roundw
          case rel => exact ⟨k + 1, la, by omega, rfl, by go_num, HST, Lib.hid (below_drewN' hB.out _)⟩
          case measure => simp [intOf]; omega
      · have hkm : k = m := by omega
        have HF : Hid (la = comF lx ly (min lx.length ly.length)) := Lib.hid (by rw [← H1.out, ← H2.out, ← HM.out, ← hkm]; exact hla.out)
        have HB4 := Lib.hid (below_call HB3.out (Nat.le_refl _) hB.out)
        clear hkm
        go_wp2
        go_ret2
        exact ⟨by rw [← HF.out]; rfl, HB4.out⟩
theorem twithin_ok {xs : List Nk} {dep : Nat → Nat} (hI : TI xs dep) (q t g cap i j : Nat) (a b : Int) (x y : Nk) (w : World) (H : TRE w q t g cap xs) (ha : NAt 1 a xs i x) (hb : NAt 1 b xs j y) :
    Calls Try.prog 16 #[.pointer (some ⟨q, 0, none⟩), .int .i64 a, .int .i64 b] w fun e w' => e = .returned (.tuple #[.bool (wiB xs (dep j) b a), .nilIface]) ∧ Below w.heap.size w w' := by
  obtain ⟨lx, hx, -⟩ := hI.path (dep i) i x a rfl ha
  obtain ⟨ly, hy, -⟩ := hI.path (dep j) j y b rfl hb
  have HS := Lib.hid (thas2 q t g cap a b xs w H hI.nm i j x y ha hb)
  have HC := Lib.hid (fun W (hB : Below w.heap.size w W) => tcommon_ok hI q t g cap i j a b x y lx ly W (H.below hB) ha hb hx hy)
  have HW := Lib.hid (com_wi hI ha hb hx hy)
  obtain ⟨cm, hcm⟩ : ∃ cm, cm = comF lx ly (min lx.length ly.length) := ⟨_, rfl⟩
  rw [← hcm] at HC HW
  clear H hI ha hb hx hy hcm
  go_enter Try.func16, Try.ntmps16
  go_wp2_with fail
  refine HS.out.mono ?_
  rintro e w1 ⟨rfl, hb1⟩
  have HB1 := Lib.hid hb1
  clear hb1
  go_wp2_with fail
  refine (HC.out w1 HB1.out).mono ?_
  rintro e w2 ⟨rfl, hb2⟩
  have HB2 := Lib.hid (below_call HB1.out (Nat.le_refl _) hb2)
  clear hb2
  go_wp2
  go_ret2
  exact ⟨by rw [← HW.out]; rfl, HB2.out⟩

end Go.Proofs.Ytgjlkplieoajlaa
