/- Of the text TR4 only what this claim needs (shake.py, this repo's). -/
import Derived.Test.YtgjlkplieoajlaaZTR3
set_option linter.unusedVariables false
set_option linter.unusedSimpArgs false
namespace Go.Proofs.Ytgjlkplieoajlaa
open Go.RowKit
open Go.Proofs.YtgjlkplieoajlaaW.PrintWords (Kd Drawn0 Kept rd rdOf)
open Go.Proofs.Ytgjlkplieoajlaa.PTreeWhole
set_option maxRecDepth 100000

theorem walkF_pre (xs : List Nk) (k : Nat) (z : Int) : walkF xs (k + 1) z = z :: (kidsF xs z).flatMap (walkF xs k) := rfl
def walkP (xs : List Nk) (k : Nat) (L : List Int) (z : Int) (j : Nat) : List Int := L ++ z :: ((kidsF xs z).take j).flatMap (walkF xs k)
theorem walkP_succ {xs : List Nk} {k : Nat} {L : List Int} {z : Int} {j : Nat} {a : Int} (h : (kidsF xs z)[j]? = some a) : walkP xs k L z (j + 1) = walkP xs k L z j ++ walkF xs k a := by
  unfold walkP
  rw [List.take_add_one, h]
  simp
theorem walkP_len {xs : List Nk} {k : Nat} {L : List Int} {z : Int} {j : Nat} {a : Int} (h : (kidsF xs z)[j]? = some a) : (walkP xs k L z j).length + (walkF xs k a).length ≤ L.length + (walkF xs (k + 1) z).length := by
  rw [← List.length_append, ← walkP_succ h]
  unfold walkP
  rw [walkF_pre]
  simp only [List.length_append, List.length_cons]
  have : (((kidsF xs z).take (j + 1)).flatMap (walkF xs k)).length ≤ ((kidsF xs z).flatMap (walkF xs k)).length := by
    conv => rhs; rw [← List.take_append_drop (j + 1) (kidsF xs z), List.flatMap_append, List.length_append]
    omega
  omega
theorem walkP_all {xs : List Nk} {k : Nat} {L : List Int} {z : Int} {j : Nat} (h : (kidsF xs z).length ≤ j) : walkP xs k L z j = L ++ walkF xs (k + 1) z := by
  unfold walkP
  rw [List.take_of_length_le h, walkF_pre]

/-- What the walk leaves. -/
def WalkPost (w : World) (b : Nat) (v : Value) (l : List Int) (e : Ending) (w' : World) : Prop :=
  ∃ v', e = .returned v' ∧ RH w' b v' l ∧ Chg (fun m => v.ownBlock = some m) w w' ∧ (v'.ownBlock = v.ownBlock ∨ ∃ m, v'.ownBlock = some m ∧ w.heap.size ≤ m)

set_option maxHeartbeats 4000000 in
theorem twalk_ok {xs : List Nk} {dep : Nat → Nat} (hI : TI xs dep) : ∀ (k : Nat) (z : Int) (i : Nat) (x : Nk), NAt 1 z xs i x → 8 ≤ dep i + k → ∀ (q t g cap b : Nat) (L : List Int) (v : Value) (w : World), TRE w q t g cap xs → RH w b v L → b ≤ w.heap.size → L.length + (walkF xs k z).length ≤ 1000000 →
    Calls Try.prog 19 #[.pointer (some ⟨q, 0, none⟩), v, .int .i64 z] w (WalkPost w b v (L ++ walkF xs k z)) := by
  intro k
  induction k with
  | zero =>
    intro z i x ha h8 q t g cap b L v w H hR hb hl
    have hnk := hI.no_kids ha (by omega)
    have HK := Lib.hid (fun W (hT : TRE W q t g cap xs) => tkids_ok q t g cap z xs W hT hI.nm i x ha)
    obtain ⟨A, c, rfl⟩ := Kd.R_slice hR
    have HH := Lib.hid H
    have HR := Lib.hid hR
    have HNK := Lib.hid hnk
    have hl' : L.length + 1 ≤ 1000000 := by simpa [walkF] using hl
    clear ha h8 hnk hl H hR
    go_enter Try.func19, Try.ntmps19
    go_wp2_with (first
      | (at_builtin; go_loud (refine Kd.R_append (Kd.int .i64) (w0 := w) b rfl (.tmp 11) (.tmp 13) 25 27 (.int .i64 0) 8 rfl Try.underlying25 infoH rfl (by decide) (by omega) (.slice A L.length c) L z [.int .i64 z] (fun _ => True) (fun _ => False) rfl rfl rfl (fun _ hk => hk.elim) (fun _ _ => trivial) HR.out (Below.refl _ _) hb (by omega) ?_); intro v1 w1 hR1 hB1 hg1 hat1)
      | fail)
    have hc1 : Chg (fun m => (Value.slice A L.length c).ownBlock = some m) w w1 := (Chg.ofGrown hg1).mono (fun m _ e => e.symm)
    have HH1 := Lib.hid (HH.out.row HR.out hc1)
    have HC1 := Lib.hid hc1
    have HR1 := Lib.hid hR1
    have HAT1 := Lib.hid hat1
    obtain ⟨A1, c1, rfl⟩ := Kd.R_slice hR1
    rw [show (L ++ [z]).length = L.length + 1 from by simp] at HR1 HAT1 ⊢
    clear hc1 hR1 hB1 hg1 hat1
    go_wp2_with fail
    refine (HK.out w1 HH1.out).mono ?_
    rintro e w2 ⟨v2, rfl, hR2, hb2⟩
    rw [HNK.out] at hR2
    obtain ⟨A2, c2, rfl⟩ := Kd.R_slice hR2
    have HR2 := Lib.hid (Kd.R_below HR1.out hb2)
    have HC2 := Lib.hid (HC1.out.trans (Chg.ofBelow hb2 _))
    rw [show ([] : List Int).length = 0 from rfl]
    clear hR2 hb2
    go_wp2_with fail
    go_loopw [1, 23] (fun u i wr => u = .slice A1 (L.length + 1) c1 ∧ i = .int .i64 0 ∧ wr = w2) (fun _ _ _ => 0)
    case atStart => exact ⟨rfl, rfl, rfl⟩
    case round =>
      obtain ⟨rfl, rfl, rfl⟩ := hrel
      go_wp2
      go_ret
      exact ⟨_, rfl, HR2.out, HC2.out, HAT1.out⟩
  | succ k ih =>
    intro z i x ha h8 q t g cap b L v w H hR hb hl
    have HK := Lib.hid (fun W (hT : TRE W q t g cap xs) => tkids_ok q t g cap z xs W hT hI.nm i x ha)
    have HIH := Lib.hid (fun (a : Int) (j : Nat) (y : Nk) (hm : NAt 1 a xs j y) (hp : y.p = z) => ih a j y hm (by have := (hI.kid_dep hm ha hp).2; omega))
    obtain ⟨A, c, rfl⟩ := Kd.R_slice hR
    have HH := Lib.hid H
    have HR := Lib.hid hR
    have HL := Lib.hid hl
    have hkl : (kidsF xs z).length ≤ 64 := by
      have h1 := kidsK_all xs z (Nat.le_refl (tkN 0 xs).length)
      have h2 := kidsK_len xs z (tkN 0 xs).length
      have h3 := tkN_len xs 0
      have h4 := hI.nm.len
      rw [h1] at h2
      omega
    have hl' : L.length + 1 ≤ 1000000 := by rw [walkF_pre] at hl; simp only [List.length_cons] at hl; omega
    obtain ⟨n, hn⟩ : ∃ n, n = (kidsF xs z).length := ⟨_, rfl⟩
    have HN := Lib.hid hn
    have hn64 : n ≤ 64 := by omega
    clear ha h8 hl H hR ih hn hkl
    go_enter Try.func19, Try.ntmps19
    go_wp2_with (first
      | (at_builtin; go_loud (refine Kd.R_append (Kd.int .i64) (w0 := w) b rfl (.tmp 11) (.tmp 13) 25 27 (.int .i64 0) 8 rfl Try.underlying25 infoH rfl (by decide) (by omega) (.slice A L.length c) L z [.int .i64 z] (fun _ => True) (fun _ => False) rfl rfl rfl (fun _ hk => hk.elim) (fun _ _ => trivial) HR.out (Below.refl _ _) hb (by omega) ?_); intro v1 w1 hR1 hB1 hg1 hat1)
      | fail)
    have hc1 : Chg (fun m => (Value.slice A L.length c).ownBlock = some m) w w1 := (Chg.ofGrown hg1).mono (fun m _ e => e.symm)
    have HH1 := Lib.hid (HH.out.row HR.out hc1)
    have HC1 := Lib.hid hc1
    have HR1 : Hid (RH w1 b v1 (walkP xs k L z 0)) := Lib.hid (by unfold walkP; simpa using hR1)
    have HAT1 := Lib.hid hat1
    obtain ⟨A1, c1, rfl⟩ := Kd.R_slice hR1
    rw [show (L ++ [z]).length = L.length + 1 from by simp] at HR1 HAT1 ⊢
    clear hc1 hR1 hB1 hg1 hat1
    go_wp2_with fail
    refine (HK.out w1 HH1.out).mono ?_
    rintro e w2 ⟨v2, rfl, hR2, hb2⟩
    have HF2 := Lib.hid (rowH_form hR2)
    obtain ⟨A2, c2, rfl⟩ := Kd.R_slice hR2
    have HR2 := Lib.hid (Kd.R_below HR1.out hb2)
    have HC2 := Lib.hid (HC1.out.trans (Chg.ofBelow hb2 _))
    have HH2 := Lib.hid (HH1.out.below hb2)
    have HS2 := Lib.hid hb2.size
    rw [← HN.out] at HF2 ⊢
    have HT1 := Lib.hid (fun m (e : (Value.slice A1 (L.length + 1) c1).ownBlock = some m) => (rowH_ty HR1.out e).2.1)
    clear hR2 hb2 HR1 HH1
    go_wp2_with fail
    go_loopw [1, 23] (fun u i wr => ∃ j : Nat, j ≤ n ∧ i = .int .i64 j ∧ Hid (RH wr b u (walkP xs k L z j)) ∧ Hid (Chg (fun m => (Value.slice A L.length c).ownBlock = some m) w wr) ∧ Hid (u.ownBlock = (Value.slice A L.length c).ownBlock ∨ ∃ m, u.ownBlock = some m ∧ w.heap.size ≤ m) ∧ Hid (∀ m, u.ownBlock = some m → m < w1.heap.size ∨ w2.heap.size ≤ m) ∧ Hid (TRE wr q t g cap xs) ∧ Hid (Chg (fun m => m < w1.heap.size) w2 wr)) (fun _ i _ => n - (intOf i).toNat)
    case atStart => exact ⟨0, Nat.zero_le _, rfl, HR2, HC2, HAT1, Lib.hid (fun m e => .inl (HT1.out m e)), HH2, Lib.hid (Chg.refl _ _)⟩
    case round =>
      clear HR2 HC2 HAT1 HH2
      obtain ⟨j, hj, rfl, hR, hC, hO, hX, hH, hS⟩ := hrel
      by_cases hlt : j < n
      · obtain ⟨a, hka⟩ : ∃ a, (kidsF xs z)[j]? = some a := ⟨_, List.getElem?_eq_getElem (by have := HN.out; omega)⟩
        obtain ⟨jj, y, hm, hp⟩ := mem_kids.1 (List.mem_of_getElem? hka)
        obtain ⟨gk, cap2, cur2, e1, hgk, hcur, hcell⟩ : ∃ g cap cur, (Value.slice A2 n c2) = .slice (some ⟨g, 0, none⟩) n cap ∧ w1.heap.size ≤ g ∧ w2.heap[g]? = some (.cells cur 27 (0, 0)) ∧ ∀ (i : Nat) (x : Int), (kidsF xs z)[i]? = some x → w2.cell? ⟨g, i, none⟩ = some (.int .i64 x) := by
          rcases HF2.out with ⟨e, el⟩ | h
          · rw [el] at hka
            simp at hka
          · exact h
        have hgl : gk < w2.heap.size := (Array.getElem?_eq_some_iff.1 hcur).1
        have hck : wr.cell? ⟨gk, j, none⟩ = some (.int .i64 a) := by
          rw [← hcell j a hka]
          exact World.cell?_of_block (hS.out.block gk hgl (by omega))
        have e2 : A2 = some ⟨gk, 0, none⟩ := by injection e1
        subst e2
        obtain ⟨Au, cu, rfl⟩ := Kd.R_slice hR.out
        have hlen := walkP_len (k := k) (L := L) hka
        have HW := Lib.hid (HIH.out a jj y hm hp q t g cap b (walkP xs k L z j) (.slice Au (walkP xs k L z j).length cu) wr hH.out hR.out (Nat.le_trans hb hC.out.size) (by have := HL.out; omega))
        have HPS := Lib.hid (walkP_succ (k := k) (L := L) hka)
        clear hm hp e1 hcell hcur hgk hka hlen
        go_wp2_with fail
        refine HW.out.mono ?_
        rintro e w3 ⟨v3, rfl, hR3, hC3, hO3⟩
        have HR3 : Hid (RH w3 b v3 (walkP xs k L z (j + 1))) := Lib.hid (by rw [HPS.out]; exact hR3)
        have HC3 : Hid (Chg (fun m => (Value.slice A L.length c).ownBlock = some m) w w3) := Lib.hid ⟨hC3.os.trans hC.out.os, hC3.tape.trans hC.out.tape, hC3.output.trans hC.out.output, Nat.le_trans hC.out.size hC3.size, fun m hm hn => by
          rw [hC3.block m (Nat.lt_of_lt_of_le hm hC.out.size) (fun e => ?_)]
          · exact hC.out.block m hm hn
          · rcases hO.out with h | ⟨m', h1, h2⟩
            · exact hn (h ▸ e)
            · rw [h1] at e
              have : m' = m := by simpa using e
              omega⟩
        have HO3 : Hid (v3.ownBlock = (Value.slice A L.length c).ownBlock ∨ ∃ m, v3.ownBlock = some m ∧ w.heap.size ≤ m) := Lib.hid (by
          rcases hO3 with h | ⟨m, h1, h2⟩
          · rw [h]; exact hO.out
          · exact .inr ⟨m, h1, Nat.le_trans hC.out.size h2⟩)
        have HX3 : Hid (∀ m, v3.ownBlock = some m → m < w1.heap.size ∨ w2.heap.size ≤ m) := Lib.hid (fun m e => by
          rcases hO3 with h | ⟨m', h1, h2⟩
          · rw [h] at e; exact hX.out m e
          · rw [h1] at e
            have : m' = m := by simpa using e
            have := hS.out.size
            omega)
        have HH3 := Lib.hid (hH.out.row hR.out hC3)
        have HS3 : Hid (Chg (fun m => m < w1.heap.size) w2 w3) := Lib.hid ⟨hC3.os.trans hS.out.os, hC3.tape.trans hS.out.tape, hC3.output.trans hS.out.output, Nat.le_trans hS.out.size hC3.size, fun m hm hn => by
          rw [hC3.block m (Nat.lt_of_lt_of_le hm hS.out.size) (fun e => ?_)]
          · exact hS.out.block m hm hn
          · have := hX.out m e
            omega⟩
        clear hR3 hC3 hO3 hR hC hO hX hH hS
        go_wp2
        go_roundw
        case rel => exact ⟨j + 1, by omega, by go_num, HR3, HC3, HO3, HX3, HH3, HS3⟩
        case measure => simp [intOf]; omega
      · have HE := Lib.hid (walkP_all (k := k) (L := L) (show (kidsF xs z).length ≤ j by have := HN.out; omega))
        have HRR := Lib.hid (show RH wr b _ (L ++ walkF xs (k + 1) z) from by have := hR.out; rw [HE.out] at this; exact this)
        go_wp2
        go_ret
        exact ⟨_, rfl, HRR.out, hC.out, hO.out⟩

theorem tall_any {xs : List Nk} {dep : Nat → Nat} (hI : TI xs dep) (q t g cap : Nat) (w : World) (H : TRE w q t g cap xs) :
    Calls Try.prog 6 #[.pointer (some ⟨q, 0, none⟩)] w fun e w' => ∃ v, e = .returned v ∧ RH w' w.heap.size v (walkF xs 8 rootH) ∧ Below w.heap.size w w' := by
  have c0 := H.c0
  have c1 := H.c1
  have HW := Lib.hid (twalk_ok hI 8 rootH 0 _ hI.rootAt (by omega) q t g cap w.heap.size [] (.slice none 0 0) w H (Kd.R_nil _ _ _ _ _) (Nat.le_refl _) (by have := hI.walk_len 8 hI.rootAt; simp only [List.length_nil]; omega))
  obtain ⟨r, hr⟩ : ∃ r, r = rootH := ⟨_, rfl⟩
  rw [← hr] at c1 HW ⊢
  clear H hr hI
  go_enter Try.func6, Try.ntmps6
  go_wp2_with fail
  refine HW.out.mono ?_
  rintro e w1 ⟨v, rfl, hR, hC, -⟩
  have HR := Lib.hid hR
  have HB : Hid (Below w.heap.size w w1) := Lib.hid ⟨hC.os, hC.tape, hC.output, hC.size, fun m hm => hC.block m hm (fun e => by simp [Value.ownBlock] at e)⟩
  clear hR hC
  go_wp2
  go_ret
  exact ⟨_, rfl, HR.out, HB.out⟩

end Go.Proofs.Ytgjlkplieoajlaa
