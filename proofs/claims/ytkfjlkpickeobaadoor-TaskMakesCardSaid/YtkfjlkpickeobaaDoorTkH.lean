/- titheref12.Text, by contract. -/
import Derived.Test.YtkfjlkpickeobaaDoorTkG
import Derived.Test.YtkfjlkpickeobaaDoorTmE
set_option linter.unusedVariables false
set_option linter.unusedSimpArgs false
namespace Go.Proofs.YtkfjlkpickeobaaDoor
open Go.RowKit
open Go.Proofs.YtkfjlkpickeobaaDoorW.PrintWords (Kd Drawn0 Kept rd rdOf ReadsRow)
open Go.Proofs.YtkfjlkpickeobaaDoor.PTaskRuns
set_option maxRecDepth 100000

/-- A number's text, as a letter. -/
def IsD (n : Int) (d : ByteArray) : Prop := d = ⟨(Lib.itoa n).toArray⟩
theorem isD_size {n : Int} {d : ByteArray} (h : IsD n d) (hn : okN n) : d.size ≤ 21 := by
  rw [h]
  have := Lib.itoa_length_le n (by have := hn.1; omega) (by have := hn.2; omega)
  simpa [ByteArray.size] using this
theorem digits_d {n : Int} {d : ByteArray} (h : IsD n d) (hn : okN n) (w : World) : ∀ k, Calls Tryd.prog 52 #[.int .i64 n] (w.drewN k) fun e w' => e = .returned (.string d) ∧ ∃ m, w' = w.drewN m := by
  intro k
  obtain ⟨h0, h1⟩ := hn
  obtain ⟨u, rfl⟩ : ∃ u : Nat, n = u := ⟨n.toNat, by omega⟩
  refine (digits_c u (by omega) (w.drewN k)).mono ?_
  rintro e w' ⟨rfl, m, rfl⟩
  exact ⟨by rw [h, Lib.itoa_nonneg], k + m, by rw [World.drewN_drewN]⟩
theorem digits_e {n : Int} {d : ByteArray} (h : IsD n d) (hn : okN n) (w : World) : Calls Tryd.prog 52 #[.int .i64 n] w fun e w' => e = .returned (.string d) ∧ ∃ m, w' = w.drewN m := digits_d h hn w 0
theorem bapp' (l m : List UInt8) : (⟨l.toArray⟩ : ByteArray) ++ ⟨m.toArray⟩ = ⟨(l ++ m).toArray⟩ := by
  apply ByteArray.ext
  simp [ByteArray.data_append]

theorem head_text {T : Tk} {dp dg dd dc dt : ByteArray} (hp : IsD T.p dp) (hg : IsD T.g dg) (hd : IsD T.d dd) (hc : IsD T.c dc) (ht : IsD T.t dt) :
    (⟨#[112, 114, 105, 111, 32]⟩ : ByteArray) ++ dp ++ ⟨#[32, 103, 105, 118, 101, 110, 32]⟩ ++ dg ++ ⟨#[32, 100, 111, 110, 101, 32]⟩ ++ dd ++ ⟨#[32, 99, 117, 116, 32]⟩ ++ dc ++ ⟨#[32, 108, 97, 116, 101, 32]⟩ ++ dt = ⟨(headF T).toArray⟩ := by
  rw [hp, hg, hd, hc, ht]
  apply ByteArray.ext
  simp [ByteArray.data_append, headF, wordF]
theorem sz_mk (a : Array UInt8) : (⟨a⟩ : ByteArray).size = a.size := rfl
theorem headF_ne (T : Tk) : headF T ≠ [] := wordF_ne _ _ _ (by decide)
theorem jobF_ne (l : List UInt8) (x : Jb) : jobF l x ≠ [] := by unfold jobF; simp
theorem job_text {s d0 d1 d2 d3 : ByteArray} {l : List UInt8} {x : Jb} (hl : l ≠ []) (hs : s = ⟨l.toArray⟩) (h0 : IsD x.f0 d0) (h1 : IsD x.f1 d1) (h2 : IsD x.f2 d2) (h3 : IsD x.f3 d3) :
    (0 < x.f1 → 0 < x.f3 → s ++ ⟨#[32, 91]⟩ ++ d0 ++ ⟨#[32, 99, 97, 112, 32]⟩ ++ d1 ++ ⟨#[32, 97, 116, 32]⟩ ++ d2 ++ ⟨#[32, 100, 117, 101, 32]⟩ ++ d3 ++ ⟨#[93]⟩ = ⟨(jobF l x).toArray⟩) ∧
    (0 < x.f1 → ¬ 0 < x.f3 → s ++ ⟨#[32, 91]⟩ ++ d0 ++ ⟨#[32, 99, 97, 112, 32]⟩ ++ d1 ++ ⟨#[32, 97, 116, 32]⟩ ++ d2 ++ ⟨#[93]⟩ = ⟨(jobF l x).toArray⟩) ∧
    (¬ 0 < x.f1 → 0 < x.f3 → s ++ ⟨#[32, 91]⟩ ++ d0 ++ ⟨#[32, 97, 116, 32]⟩ ++ d2 ++ ⟨#[32, 100, 117, 101, 32]⟩ ++ d3 ++ ⟨#[93]⟩ = ⟨(jobF l x).toArray⟩) ∧
    (¬ 0 < x.f1 → ¬ 0 < x.f3 → s ++ ⟨#[32, 91]⟩ ++ d0 ++ ⟨#[32, 97, 116, 32]⟩ ++ d2 ++ ⟨#[93]⟩ = ⟨(jobF l x).toArray⟩) := by
  refine ⟨?_, ?_, ?_, ?_⟩
  all_goals
    intro a b
    rw [hs, h0, h2]
    try rw [h1]
    try rw [h3]
    apply ByteArray.ext
    simp [ByteArray.data_append, jobF, dueF, capF, wordF, hl, a, b]
/-- The text behind k jobs. -/
structure SB (T : Tk) (k : Nat) (s : ByteArray) (w W : World) : Prop where
  eq : s = ⟨((T.js.take k).foldl jobF (headF T)).toArray⟩
  ne : (T.js.take k).foldl jobF (headF T) ≠ []
  sz : s.size ≤ 300 + 200 * k
  be : Below w.heap.size w W
theorem SB.step {T : Tk} {k : Nat} {s s' : ByteArray} {w W W' : World} {x : Jb} (h : SB T k s w W) (hx : T.js[k]? = some x) (hs : s' = ⟨(jobF ((T.js.take k).foldl jobF (headF T)) x).toArray⟩) (hz : s'.size ≤ s.size + 200) (hb : Below w.heap.size w W') : SB T (k + 1) s' w W' := by
  have e : (T.js.take (k + 1)).foldl jobF (headF T) = jobF ((T.js.take k).foldl jobF (headF T)) x := by
    rw [List.take_add_one, hx]
    simp
  exact ⟨by rw [e]; exact hs, by rw [e]; exact jobF_ne _ _, by have := h.sz; omega, hb⟩

set_option maxHeartbeats 2000000 in
theorem rtext_yes (T : Tk) (v : Value) (w : World) (h : TR w v T.js) (hk : T.okB = true) (hT : okN T.p ∧ okN T.g ∧ okN T.d ∧ okN T.c ∧ okN T.t) :
    Calls Tryd.prog 27 #[T.v v] w fun e w' => e = .returned (.string ⟨(showF T).toArray⟩) ∧ Below w.heap.size w w' := by
  obtain ⟨A, c, rfl, hc, ho⟩ := h.open
  obtain ⟨bt, hbt⟩ : ∃ b, b = w.heap.size := ⟨_, rfl⟩
  obtain ⟨W0, hW0⟩ : ∃ y, y = w.alloc (.cells #[.int .i64 T.p, .slice A T.js.length c, .int .i64 T.g, .int .i64 T.o, .int .i64 T.l, .int .i64 T.d, .int .i64 T.c, .int .i64 T.t] 26) := ⟨_, rfl⟩
  have hx : BX w.heap.size w W0 [T.cs (.slice A T.js.length c)] := by rw [hW0]; exact BX.new w [T.cs (.slice A T.js.length c)]
  have HXt : Hid (TX W0 bt T (.slice A T.js.length c)) := by rw [hbt]; exact Lib.hid ⟨hx.bx 0 _ rfl, h.below hx.be⟩
  have HB0 := Lib.hid hx.be
  have HV := Lib.hid (rvalid_c T (.slice A T.js.length c) W0 HXt.out.tr (by have := Tk.ok_len hk; omega))
  have HW0 := Lib.hid hW0
  have Hbt := Lib.hid hbt
  have HO := Lib.hid ho
  have HK := Lib.hid hk
  have HT := Lib.hid hT
  clear h hx hW0 hbt ho hk hT
  go_enter Tryd.func27, Tryd.ntmps27
  go_wp2_with fail
  rw [← HW0.out, ← Hbt.out]
  refine HV.out.mono ?_
  rintro e w1 ⟨rfl, hb⟩
  rw [if_pos HK.out]
  have HX1 := Lib.hid (HXt.out.below hb)
  have HB1 := Lib.hid (below_call HB0.out (Nat.le_refl _) hb)
  clear HV hb HXt HB0
  obtain ⟨dp, hp⟩ : ∃ d, IsD T.p d := ⟨_, rfl⟩
  obtain ⟨dg, hg⟩ : ∃ d, IsD T.g d := ⟨_, rfl⟩
  obtain ⟨dd, hd⟩ : ∃ d, IsD T.d d := ⟨_, rfl⟩
  obtain ⟨dc, hcc⟩ : ∃ d, IsD T.c d := ⟨_, rfl⟩
  obtain ⟨dt, ht⟩ : ∃ d, IsD T.t d := ⟨_, rfl⟩
  have sp := isD_size hp HT.out.1
  have sg := isD_size hg HT.out.2.1
  have sd := isD_size hd HT.out.2.2.1
  have sc := isD_size hcc HT.out.2.2.2.1
  have st := isD_size ht HT.out.2.2.2.2
  obtain ⟨ba, hba⟩ : ∃ b, b = w1.heap.size := ⟨_, rfl⟩
  obtain ⟨W2, hW2⟩ : ∃ y, y = w1.alloc (.cells #[.int .i64 T.g, .int .i64 T.o, .int .i64 T.l, .int .i64 T.d, .int .i64 T.c, .int .i64 T.t] 24) := ⟨_, rfl⟩
  have Hp := Lib.hid (digits_d hp HT.out.1 W2)
  have Hg := Lib.hid (digits_d hg HT.out.2.1 W2)
  have Hd := Lib.hid (digits_d hd HT.out.2.2.1 W2)
  have Hc := Lib.hid (digits_d hcc HT.out.2.2.2.1 W2)
  have Ht := Lib.hid (digits_d ht HT.out.2.2.2.2 W2)
  have HX2 : Hid (TX W2 bt T (.slice A T.js.length c)) := by rw [hW2]; exact Lib.hid (HX1.out.alloc _)
  have HBA : Hid (W2.heap[ba]? = some (.cells #[.int .i64 T.g, .int .i64 T.o, .int .i64 T.l, .int .i64 T.d, .int .i64 T.c, .int .i64 T.t] 24 (0, 0))) := by rw [hW2, hba]; exact Lib.hid (alloc_new w1 _)
  have HB2 : Hid (Below w.heap.size w W2) := by rw [hW2]; exact Lib.hid (below_alloc HB1.out (Nat.le_refl _) _)
  obtain ⟨t0, t1, t2, t3, t4, t5, t6, t7⟩ := HX1.out.t8
  have HW2 := Lib.hid hW2
  have Hba := Lib.hid hba
  clear hba hW2 HB1
  go_wp2_with fail
  rw [← HW2.out, ← Hba.out]
  clear t0 t1 t2 t3 t4 t5 t6 t7 HX1
  obtain ⟨t0, t1, t2, t3, t4, t5, t6, t7⟩ := HX2.out.t8
  have a0 : W2.cell? ⟨ba, 0, none⟩ = some (.int .i64 T.g) := by simp [World.cell?, HBA.out]
  have a3 : W2.cell? ⟨ba, 3, none⟩ = some (.int .i64 T.d) := by simp [World.cell?, HBA.out]
  have a4 : W2.cell? ⟨ba, 4, none⟩ = some (.int .i64 T.c) := by simp [World.cell?, HBA.out]
  have a5 : W2.cell? ⟨ba, 5, none⟩ = some (.int .i64 T.t) := by simp [World.cell?, HBA.out]
  go_quiet (first | (go_at_call 52; with_reducible exact Hp.out _) | (go_at_call 52; with_reducible exact Hg.out _) | (go_at_call 52; with_reducible exact Hd.out _) | (go_at_call 52; with_reducible exact Hc.out _) | (go_at_call 52; with_reducible exact Ht.out _))
  go_wp2_with fail
  have hn8 : T.js.length ≤ 8 := Tk.ok_len HK.out
  have HE := Lib.hid (head_text hp hg hd hcc ht)
  rw [HE.out]
  obtain ⟨s0, hs0⟩ : ∃ s : ByteArray, s = ⟨(headF T).toArray⟩ := ⟨_, rfl⟩
  rw [← hs0]
  have HS0 : Hid (SB T 0 s0 W2 (W2.drewN nq)) := Lib.hid ⟨by simpa using hs0, by simpa using headF_ne T, by rw [hs0, ← HE.out]; simp only [ByteArray.size_append, sz_mk]; simp; omega, below_drewN' (Below.refl _ _) nq⟩
  clear HE hs0 hp hg hd hcc ht sp sg sd sc st Hp Hg Hd Hc Ht a0 a3 a4 a5 t0 t1 t2 t3 t4 t5 t6 t7
  go_loopw [4, 5] (fun sv i wr => ∃ k : Nat, k ≤ T.js.length ∧ i = .int .i64 k ∧ ∃ s : ByteArray, sv = .string s ∧ Hid (SB T k s W2 wr)) (fun _ i _ => T.js.length - (intOf i).toNat)
  case atStart => exact ⟨0, Nat.zero_le _, rfl, s0, rfl, HS0⟩
  case round =>
    clear HS0
    obtain ⟨k, hkn, rfl, s, rfl, hS⟩ := hrel
    have HXr := Lib.hid (HX2.out.below hS.out.be)
    obtain ⟨t0, t1, -⟩ := HXr.out.t8
    by_cases hlt : k < T.js.length
    · obtain ⟨x, hx⟩ : ∃ x, T.js[k]? = some x := ⟨_, List.getElem?_eq_getElem hlt⟩
      obtain ⟨b, o, rfl, hj⟩ := HO.out k x hx
      have hjp : jobP x := by
        have := HK.out
        unfold Tk.okB at this
        simp only [Bool.and_eq_true, List.all_eq_true] at this
        exact of_decide_eq_true (this.2 x (List.mem_of_getElem? hx))
      obtain ⟨p0, p1, p2, p3⟩ := hjp
      obtain ⟨j0, j1, j2, j3⟩ := hj.below (below_call HB2.out (Nat.le_refl _) hS.out.be)
      obtain ⟨d0, h0⟩ : ∃ d, IsD x.f0 d := ⟨_, rfl⟩
      obtain ⟨d1, h1⟩ : ∃ d, IsD x.f1 d := ⟨_, rfl⟩
      obtain ⟨d2, h2⟩ : ∃ d, IsD x.f2 d := ⟨_, rfl⟩
      obtain ⟨d3, h3⟩ : ∃ d, IsD x.f3 d := ⟨_, rfl⟩
      have o0 : okN x.f0 := ⟨by omega, by omega⟩
      have o1 : okN x.f1 := ⟨by omega, by omega⟩
      have o2 : okN x.f2 := ⟨by omega, by omega⟩
      have o3 : okN x.f3 := ⟨by omega, by omega⟩
      have s0' := isD_size h0 o0
      have s1' := isD_size h1 o1
      have s2' := isD_size h2 o2
      have s3' := isD_size h3 o3
      have hss : s.size ≤ 2000 := by have := hS.out.sz; omega
      obtain ⟨bj, hbj⟩ : ∃ b, b = wr.heap.size := ⟨_, rfl⟩
      obtain ⟨W3, hW3⟩ : ∃ y, y = wr.alloc (.cells #[.int .i64 x.f0, .int .i64 x.f1, .int .i64 x.f2, .int .i64 x.f3] 28) := ⟨_, rfl⟩
      have HJ : Hid (JX W3 bj x) := by rw [hW3, hbj]; exact Lib.hid (JX.new wr x)
      have HB3 : Hid (Below W2.heap.size W2 W3) := by rw [hW3]; exact Lib.hid (below_alloc hS.out.be (Nat.le_refl _) _)
      have HW3 := Lib.hid hW3
      have Hbj := Lib.hid hbj
      have HJT := Lib.hid (job_text hS.out.ne hS.out.eq h0 h1 h2 h3)
      have HX := Lib.hid hx
      have H0 := Lib.hid h0
      have H1 := Lib.hid h1
      have H2 := Lib.hid h2
      have H3 := Lib.hid h3
      clear hj hx p0 p1 p2 p3 hW3 hbj h0 h1 h2 h3
      go_wp2_with fail
      rw [← HW3.out, ← Hbj.out]
      clear j0 j1 j2 j3 t0 t1
      obtain ⟨j0, j1, j2, j3⟩ := HJ.out.j4
      refine (digits_e H0.out o0 _).mono ?_
      rintro e w_ ⟨rfl, m1, rfl⟩
      by_cases q1 : 0 < x.f1
      · have g1 : decide (0 < x.f1) = true := decide_eq_true q1
        by_cases q3 : 0 < x.f3
        · have g3 : decide (0 < x.f3) = true := decide_eq_true q3
          go_wp2_with fail
          refine (digits_e H1.out o1 _).mono ?_
          rintro e w_ ⟨rfl, m2, rfl⟩
          go_wp2_with fail
          refine (digits_e H2.out o2 _).mono ?_
          rintro e w_ ⟨rfl, m3, rfl⟩
          go_wp2_with fail
          refine (digits_e H3.out o3 _).mono ?_
          rintro e w_ ⟨rfl, m4, rfl⟩
          go_wp2
          go_roundw
          case rel => exact ⟨k + 1, by omega, by go_num, _, rfl, Lib.hid (hS.out.step HX.out (HJT.out.1 q1 q3) (by simp only [ByteArray.size_append, sz_mk]; simp; omega) (by first | exact below_drewN' HB3.out _ | (simp only [World.drewN_drewN]; exact below_drewN' HB3.out _)))⟩
          case measure => simp [intOf]; omega
        · have g3 : decide (0 < x.f3) = false := decide_eq_false q3
          go_wp2_with fail
          refine (digits_e H1.out o1 _).mono ?_
          rintro e w_ ⟨rfl, m2, rfl⟩
          go_wp2_with fail
          refine (digits_e H2.out o2 _).mono ?_
          rintro e w_ ⟨rfl, m3, rfl⟩
          go_wp2
          go_roundw
          case rel => exact ⟨k + 1, by omega, by go_num, _, rfl, Lib.hid (hS.out.step HX.out (HJT.out.2.1 q1 q3) (by simp only [ByteArray.size_append, sz_mk]; simp; omega) (by first | exact below_drewN' HB3.out _ | (simp only [World.drewN_drewN]; exact below_drewN' HB3.out _)))⟩
          case measure => simp [intOf]; omega
      · have g1 : decide (0 < x.f1) = false := decide_eq_false q1
        by_cases q3 : 0 < x.f3
        · have g3 : decide (0 < x.f3) = true := decide_eq_true q3
          go_wp2_with fail
          refine (digits_e H2.out o2 _).mono ?_
          rintro e w_ ⟨rfl, m3, rfl⟩
          go_wp2_with fail
          refine (digits_e H3.out o3 _).mono ?_
          rintro e w_ ⟨rfl, m4, rfl⟩
          go_wp2
          go_roundw
          case rel => exact ⟨k + 1, by omega, by go_num, _, rfl, Lib.hid (hS.out.step HX.out (HJT.out.2.2.1 q1 q3) (by simp only [ByteArray.size_append, sz_mk]; simp; omega) (by first | exact below_drewN' HB3.out _ | (simp only [World.drewN_drewN]; exact below_drewN' HB3.out _)))⟩
          case measure => simp [intOf]; omega
        · have g3 : decide (0 < x.f3) = false := decide_eq_false q3
          go_wp2_with fail
          refine (digits_e H2.out o2 _).mono ?_
          rintro e w_ ⟨rfl, m3, rfl⟩
          go_wp2
          go_roundw
          case rel => exact ⟨k + 1, by omega, by go_num, _, rfl, Lib.hid (hS.out.step HX.out (HJT.out.2.2.2 q1 q3) (by simp only [ByteArray.size_append, sz_mk]; simp; omega) (by first | exact below_drewN' HB3.out _ | (simp only [World.drewN_drewN]; exact below_drewN' HB3.out _)))⟩
          case measure => simp [intOf]; omega
    · obtain rfl : k = T.js.length := by omega
      have HF := Lib.hid (show s = ⟨(showF T).toArray⟩ from by rw [hS.out.eq, List.take_length]; rfl)
      have HBE := Lib.hid (below_call HB2.out (Nat.le_refl _) hS.out.be)
      go_wp2
      go_ret
      exact ⟨by rw [← HF.out]; rfl, HBE.out⟩

end Go.Proofs.YtkfjlkpickeobaaDoor
