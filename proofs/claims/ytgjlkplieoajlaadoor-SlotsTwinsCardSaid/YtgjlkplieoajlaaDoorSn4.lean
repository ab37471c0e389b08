/- The reference's Load, by contract. -/
import Derived.Test.YtgjlkplieoajlaaDoorSn3
import Derived.Test.YtgjlkplieoajlaaDoorSlk
set_option linter.unusedVariables false
set_option linter.unusedSimpArgs false
namespace Go.Proofs.YtgjlkplieoajlaaDoor
open Go.RowKit
open Go.Proofs.YtgjlkplieoajlaaDoorW.PrintWords (Kd Drawn0 Kept rd rdOf)
open Go.Proofs.YtgjlkplieoajlaaDoor.PSlotsTwins
set_option maxRecDepth 100000

theorem cntT_mono (ts : List Bool) {i j : Nat} (h : i ≤ j) : cntT ts i ≤ cntT ts j := by
  unfold cntT
  have e : ts.take j = ts.take i ++ (ts.take j).drop i := by
    conv => lhs; rw [← List.take_append_drop i (ts.take j)]
    rw [List.take_take, Nat.min_eq_left h]
  rw [e, List.countP_append]
  omega
theorem cntT_lt {ts : List Bool} {k n : Nat} (hk : k < n) (hb : ts[k]? = some true) : cntT ts k < cntT ts n := by
  have h1 := cntT_succ hb
  have h2 := cntT_mono ts (show k + 1 ≤ n from hk)
  rw [if_pos rfl] at h1
  omega
theorem ok_iff {gs : List Int} {ts : List Bool} {hs : List Int} {n p : Nat} (hl : ts.length = n) (hp : hs.length = p) : ((∀ i, i < n → okSl gs ts hs i) ∧ cntT ts n = p) ↔ ((∀ i, i < n → okGen gs ts i) ∧ cntT ts n = p) := by
  constructor
  · rintro ⟨h1, h2⟩
    exact ⟨fun i hi => ⟨(h1 i hi).1, (h1 i hi).2.1⟩, h2⟩
  · rintro ⟨h1, h2⟩
    refine ⟨fun i hi => ⟨(h1 i hi).1, (h1 i hi).2, fun ht => ?_⟩, h2⟩
    have hb : ts[i]? = some true := by
      rw [List.getElem?_eq_getElem (by omega)]
      rw [List.getD_eq_getElem?_getD, List.getElem?_eq_getElem (by omega)] at ht
      exact congrArg some ht
    have := cntT_lt hi hb
    omega

theorem RT.fz1 {w : World} {B n g1 : Nat} {c1 : Nat} {A2 : Option Addr} {c2 : Nat} {A3 : Option Addr} {c3 : Nat} {xs : List Sl} (R : RT w B n (some ⟨g1, 0, none⟩) c1 A2 c2 A3 c3 xs) (k : Nat) : w.frozen? ⟨g1, k, none⟩ = false := by
  have o := Kd.own_of_R R.r1
  rw [show (gens xs).length = n by simpa using R.len] at o
  exact o.frozenAt k
theorem RT.fz2 {w : World} {B n g2 : Nat} {A1 : Option Addr} {c1 : Nat} {c2 : Nat} {A3 : Option Addr} {c3 : Nat} {xs : List Sl} (R : RT w B n A1 c1 (some ⟨g2, 0, none⟩) c2 A3 c3 xs) (k : Nat) : w.frozen? ⟨g2, k, none⟩ = false := by
  have o := Kd.own_of_R R.r2
  rw [show (tks xs).length = n by simpa using R.len] at o
  exact o.frozenAt k
theorem RT.fz3 {w : World} {B n g3 : Nat} {A1 : Option Addr} {c1 : Nat} {A2 : Option Addr} {c2 : Nat} {c3 : Nat} {xs : List Sl} (R : RT w B n A1 c1 A2 c2 (some ⟨g3, 0, none⟩) c3 xs) (k : Nat) : w.frozen? ⟨g3, k, none⟩ = false := by
  have o := Kd.own_of_R R.r3
  rw [show (ths xs).length = n by simpa using R.len] at o
  exact o.frozenAt k

/-- What the reference's Load leaves where a table may be. -/
def RLoadPost (w : World) (kind : Int) (n p : Nat) (gs : List Int) (ts : List Bool) (hs : List Int) (e : Ending) (w' : World) : Prop :=
  ((∀ i, i < n → okGen gs ts i) ∧ cntT ts n = p ∧ ∃ B1 d1 B2 d2 B3 d3, e = .returned (.tuple #[.agg #[.int .i64 kind, .slice B1 n d1, .slice B2 n d2, .slice B3 n d3], .int .i64 0]) ∧ RT w' w.heap.size n B1 d1 B2 d2 B3 d3 (loadSl gs ts hs n n) ∧ Below w.heap.size w w') ∨
  (¬ ((∀ i, i < n → okGen gs ts i) ∧ cntT ts n = p) ∧ e = .returned (.tuple #[.agg #[.int .i64 0, .slice none 0 0, .slice none 0 0, .slice none 0 0], .int .i64 270]) ∧ Below w.heap.size w w')

section
variable {w : World} {A1 : Option Addr} {n c1 : Nat} {A2 : Option Addr} {m c2 : Nat} {A3 : Option Addr} {p c3 : Nat} {gs : List Int} {ts : List Bool} {hs : List Int}

theorem rload_arg (kind : Int) (h : ¬ (1 ≤ kind ∧ kind ≤ 3 ∧ 1 ≤ (n : Int) ∧ (n : Int) ≤ 4096)) :
    Calls Tryd.prog 21 #[.int .i64 kind, .slice A1 n c1, .slice A2 m c2, .slice A3 p c3] w fun e w' => e = .returned (.tuple #[.agg #[.int .i64 0, .slice none 0 0, .slice none 0 0, .slice none 0 0], .int .i64 1]) ∧ Below w.heap.size w w' := by
  have hV := Lib.hid (VarT.new w 0 0 none 0 none 0 none 0)
  have hB0 := Lib.hid ((Below.refl w.heap.size w).alloc (Nat.le_refl _) (.cells #[.int .i64 0, .slice none 0 0, .slice none 0 0, .slice none 0 0] 30))
  have HN := Lib.hid (fun W => rnew_bad_c kind n W h)
  clear h
  go_enter Tryd.func21, Tryd.ntmps21
  go_wp2_with fail
  refine (HN.out _).mono ?_
  rintro e w1 ⟨B1, d1, B2, d2, B3, d3, rfl, hb⟩
  have HV := Lib.hid (hV.out.below hb)
  have HB := Lib.hid (below_call hB0.out (Nat.le_refl _) hb)
  clear hb hV hB0
  obtain ⟨z0, z1, z2, z3⟩ := HV.out.c
  have f0 := HV.out.f 0
  have f1 := HV.out.f 1
  have f2 := HV.out.f 2
  have f3 := HV.out.f 3
  have hlt := HV.out.lt
  go_wp2
  refine bodyPost_ret (v := .tuple #[.agg #[.int .i64 0, .slice none 0 0, .slice none 0 0, .slice none 0 0], .int .i64 1]) (by simp [results, Tryd.results21, go_sem, z0, z1, z2, z3, hlt]) rfl ⟨rfl, ?_⟩
  with_reducible refine below_alloc ?_ (Nat.le_refl _) _
  exact HB.out.trans ((chg_set4 w1 w.heap.size _ _ _ _).below HB.out.size (fun k hk => by rw [hk]; exact Nat.le_refl _))

theorem rload_len (kind : Int) (k0 : 1 ≤ kind) (k3 : kind ≤ 3) (n0 : 1 ≤ n) (n1 : n ≤ 4096) (hne : m ≠ n) :
    Calls Tryd.prog 21 #[.int .i64 kind, .slice A1 n c1, .slice A2 m c2, .slice A3 p c3] w fun e w' => e = .returned (.tuple #[.agg #[.int .i64 0, .slice none 0 0, .slice none 0 0, .slice none 0 0], .int .i64 270]) ∧ Below w.heap.size w w' := by
  have hV := Lib.hid (VarT.new w 0 0 none 0 none 0 none 0)
  have hB0 := Lib.hid ((Below.refl w.heap.size w).alloc (Nat.le_refl _) (.cells #[.int .i64 0, .slice none 0 0, .slice none 0 0, .slice none 0 0] 30))
  have hs0 : (w.alloc (.cells #[.int .i64 0, .slice none 0 0, .slice none 0 0, .slice none 0 0] 30)).heap.size = w.heap.size + 1 := by simp
  have HN := Lib.hid (fun W => rnew_c kind n W k0 k3 n0 n1)
  go_enter Tryd.func21, Tryd.ntmps21
  go_wp2_with fail
  refine (HN.out _).mono ?_
  rintro e w1 ⟨B1, d1, B2, d2, B3, d3, rfl, hR, hb⟩
  have HV := Lib.hid ((hV.out.below hb).below ((Below.refl _ w1).alloc (Nat.le_refl _) (.cells #[.int .i64 kind, .slice B1 n d1, .slice B2 n d2, .slice B3 n d3] 30)))
  have HB := Lib.hid (below_alloc (below_call hB0.out (Nat.le_refl _) hb) (Nat.le_refl _) (.cells #[.int .i64 kind, .slice B1 n d1, .slice B2 n d2, .slice B3 n d3] 30))
  have HR := Lib.hid (hR.below ((Below.refl _ w1).alloc (Nat.le_refl _) (.cells #[.int .i64 kind, .slice B1 n d1, .slice B2 n d2, .slice B3 n d3] 30)))
  have HT := Lib.hid (VarT.new w1 n kind B1 d1 B2 d2 B3 d3)
  have hb8 := (hV.out.below hb).lt
  rw [hs0] at HR
  clear hb hV hB0 HN hs0 hR
  go_wp2_with fail
  generalize (w1.alloc (.cells #[.int .i64 kind, .slice B1 n d1, .slice B2 n d2, .slice B3 n d3] 30)) = w2 at HV HB HR HT ⊢
  generalize w1.heap.size = b10 at hb8 HT ⊢
  refine (rslots_len hne).mono ?_
  rintro e w3 ⟨rfl, rfl⟩
  obtain ⟨z0, z1, z2, z3⟩ := HV.out.c
  have f0 := HV.out.f 0
  have f1 := HV.out.f 1
  have f2 := HV.out.f 2
  have f3 := HV.out.f 3
  go_wp2
  refine bodyPost_ret (v := .tuple #[.agg #[.int .i64 0, .slice none 0 0, .slice none 0 0, .slice none 0 0], .int .i64 270]) (by simp [results, Tryd.results21, go_sem, z0, z1, z2, z3]) rfl ⟨rfl, HB.out.trans ((chg_set4 w2 w.heap.size _ _ _ _).below HB.out.size (fun k hk => by rw [hk]; exact Nat.le_refl _))⟩

set_option maxHeartbeats 4000000 in
theorem rload_any (kind : Int) (k0 : 1 ≤ kind) (k3 : kind ≤ 3) (n0 : 1 ≤ n) (n1 : n ≤ 4096) (HA : LdA w A1 n c1 A2 n c2 A3 p c3 gs ts hs) :
    Calls Tryd.prog 21 #[.int .i64 kind, .slice A1 n c1, .slice A2 n c2, .slice A3 p c3] w (RLoadPost w kind n p gs ts hs) := by
  have hV := Lib.hid (VarT.new w 0 0 none 0 none 0 none 0)
  have hB0 := Lib.hid ((Below.refl w.heap.size w).alloc (Nat.le_refl _) (.cells #[.int .i64 0, .slice none 0 0, .slice none 0 0, .slice none 0 0] 30))
  have hs0 : (w.alloc (.cells #[.int .i64 0, .slice none 0 0, .slice none 0 0, .slice none 0 0] 30)).heap.size = w.heap.size + 1 := by simp
  have HN := Lib.hid (fun W => rnew_c kind n W k0 k3 n0 n1)
  have LA := Lib.hid HA
  clear HA
  go_enter Tryd.func21, Tryd.ntmps21
  go_wp2_with fail
  refine (HN.out _).mono ?_
  rintro e w1 ⟨B1, d1, B2, d2, B3, d3, rfl, hR, hb⟩
  have HV := Lib.hid ((hV.out.below hb).below ((Below.refl _ w1).alloc (Nat.le_refl _) (.cells #[.int .i64 kind, .slice B1 n d1, .slice B2 n d2, .slice B3 n d3] 30)))
  have HB := Lib.hid (below_alloc (below_call hB0.out (Nat.le_refl _) hb) (Nat.le_refl _) (.cells #[.int .i64 kind, .slice B1 n d1, .slice B2 n d2, .slice B3 n d3] 30))
  have HR := Lib.hid (hR.below ((Below.refl _ w1).alloc (Nat.le_refl _) (.cells #[.int .i64 kind, .slice B1 n d1, .slice B2 n d2, .slice B3 n d3] 30)))
  have HT := Lib.hid (VarT.new w1 n kind B1 d1 B2 d2 B3 d3)
  have hb8 := (hV.out.below hb).lt
  rw [hs0] at HR
  clear hb hV hB0 HN hs0 hR
  go_wp2_with fail
  generalize (w1.alloc (.cells #[.int .i64 kind, .slice B1 n d1, .slice B2 n d2, .slice B3 n d3] 30)) = w2 at HV HB HR HT ⊢
  generalize w1.heap.size = b10 at hb8 HT ⊢
  refine (rslots_any n1 (LA.out.below HB.out).a1 (LA.out.below HB.out).a2).mono ?_
  rintro e w3 ⟨rfl, ⟨hok, rfl⟩ | ⟨hbad, rfl⟩⟩
  · obtain ⟨q, hq⟩ : ∃ q, q = cntT ts n := ⟨_, rfl⟩
    rw [← hq]
    have HQ := Lib.hid hq
    have HO := Lib.hid hok
    clear hq hok
    by_cases hqp : q = p
    · subst hqp
      obtain ⟨g1, e1', ee1, -⟩ := Kd.R_form HR.out.r1 (by simp [HR.out.len]; omega)
      obtain ⟨g2, e2', ee2, -⟩ := Kd.R_form HR.out.r2 (by simp [HR.out.len]; omega)
      obtain ⟨g3, e3', ee3, -⟩ := Kd.R_form HR.out.r3 (by simp [HR.out.len]; omega)
      simp only [Value.slice.injEq] at ee1 ee2 ee3
      obtain ⟨rfl, -, rfl⟩ := ee1
      obtain ⟨rfl, -, rfl⟩ := ee2
      obtain ⟨rfl, -, rfl⟩ := ee3
      have HR0 : Hid (RT w2 (w.heap.size + 1) n (some ⟨g1, 0, none⟩) d1 (some ⟨g2, 0, none⟩) d2 (some ⟨g3, 0, none⟩) d3 (loadSl gs ts hs 0 n)) := Lib.hid (by rw [loadSl_start]; exact HR.out)
      have hbs := HB.out.size
      have hne1 : b10 ≠ g1 := fun e => HR.out.ne_blk HT.out (.inl (by rw [e]; rfl))
      have hne2 : b10 ≠ g2 := fun e => HR.out.ne_blk HT.out (.inr (.inl (by rw [e]; rfl)))
      have hne3 : b10 ≠ g3 := fun e => HR.out.ne_blk HT.out (.inr (.inr (by rw [e]; rfl)))
      have hbg1 : w.heap.size + 1 ≤ g1 := Kd.R_base HR.out.r1 g1 rfl
      have hbg2 : w.heap.size + 1 ≤ g2 := Kd.R_base HR.out.r2 g2 rfl
      have hbg3 : w.heap.size + 1 ≤ g3 := Kd.R_base HR.out.r3 g3 rfl
      clear HR
      go_wp2
      go_loopw [14, 15] (fun a i wr => ∃ k : Nat, k ≤ n ∧ i = .int .i64 k ∧ ∃ c : Nat, c ≤ k ∧ a = .int .i64 c ∧ Hid (c = cntT ts k) ∧ Hid (RT wr (w.heap.size + 1) n (some ⟨g1, 0, none⟩) d1 (some ⟨g2, 0, none⟩) d2 (some ⟨g3, 0, none⟩) d3 (loadSl gs ts hs k n)) ∧ Hid (VarT wr b10 n kind (some ⟨g1, 0, none⟩) d1 (some ⟨g2, 0, none⟩) d2 (some ⟨g3, 0, none⟩) d3) ∧ Hid (VarT wr w.heap.size 0 0 none 0 none 0 none 0) ∧ Hid (Below w.heap.size w wr)) (fun _ i _ => n - (intOf i).toNat)
      case atStart => exact ⟨0, Nat.zero_le _, rfl, 0, Nat.le_refl _, rfl, Lib.hid (cntT_zero ts).symm, HR0, HT, HV, HB⟩
      case round =>
        clear HR0 HT HV HB
        obtain ⟨k, hk, rfl, c, hck, rfl, hC, hR, hT, hV, hB⟩ := hrel
        by_cases hlt : k < n
        · have hA := LA.out.below hB.out
          obtain ⟨ad1, rfl, x1⟩ := cell_int hA.a1 hlt
          obtain ⟨ad2, rfl, x2⟩ := cell_bool hA.a2 hlt
          have hTb : ts[k]? = some (ts.getD k false) := by
            have := hA.a2.1
            rw [List.getD_eq_getElem?_getD, List.getElem?_eq_getElem (by omega)]; rfl
          have HCS := Lib.hid (cntT_succ hTb)
          have HCL := Lib.hid (fun (h : ts.getD k false = true) => show cntT ts k < q by rw [HQ.out]; exact cntT_lt hlt (by rw [hTb, h]))
          have HLD := Lib.hid (loadSl_set (gs := gs) (ts := ts) (hs := hs) hlt)
          have HLS := Lib.hid (show laidSl gs ts hs k = ⟨gs.getD k 0, ts.getD k false, if ts.getD k false = true then hs.getD (cntT ts k) 0 else 0⟩ from rfl)
          have x2f : ∀ W, Below w.heap.size w W → W.cell? (ad2.add k) = some (.bool (ts.getD k false)) := fun W h => by
            have c := cell_bool (Kd.C_below LA.out.a2 h) hlt
            obtain ⟨ad, e, c⟩ := c
            obtain rfl : ad2 = ad := Option.some.inj e
            exact c
          rw [HLS.out] at HLD
          clear hA hTb HLS x2
          generalize gs.getD k 0 = gk at x1 HLD
          generalize ts.getD k false = tk at HCS HCL HLD x2f
          have HXX := Lib.hid x2f
          clear x2f
          have HX0 := Lib.hid (show (loadSl gs ts hs k n)[k]? = some oneSl by rw [loadSl_at hlt, if_neg (by omega)])
          obtain ⟨v0, v1, v2, v3⟩ := hT.out.c
          have s1 : wr.cell? ⟨g1, k, none⟩ = some (.int .i64 1) := int_cell hR.out.r1 (by simp [HX0.out, oneSl])
          have s1f := hR.out.fz1 k
          go_wp2_with fail
          apply merge
          · intro H
            go_region_with (fail)
            all_goals exact H.out
          have M1 := Lib.hid (show RT ((wr.setCell ⟨g1, k, none⟩ (.int .i64 gk)).drew) (w.heap.size + 1) n (some ⟨g1, 0, none⟩) d1 (some ⟨g2, 0, none⟩) d2 (some ⟨g3, 0, none⟩) d3 ((loadSl gs ts hs k n).set k ⟨gk, false, 0⟩) from (hR.out.set1 HX0.out gk).below (below_drewN' (Below.refl _ _) 1))
          have C1 : Chg (fun b => b = g1) wr ((wr.setCell ⟨g1, k, none⟩ (.int .i64 gk)).drew) := ((Chg.refl (fun b => b = g1) wr).setCell ⟨g1, k, none⟩ _ rfl).drew
          have T1 := Lib.hid (hT.out.chg C1 hne1)
          have V1 := Lib.hid (hV.out.chg C1 (by show ¬ w.heap.size = g1; omega))
          have B1 := Lib.hid (hB.out.trans (C1.below hB.out.size (fun b e => by have e' : b = g1 := e; omega)))
          go_wp2_with fail
          generalize (wr.setCell ⟨g1, k, none⟩ (.int .i64 gk)).drew = W1 at M1 T1 V1 B1 ⊢
          clear x1 v0 v1 v2 v3 s1 s1f C1 hR hT hV hB
          have HX1 := Lib.hid (show ((loadSl gs ts hs k n).set k ⟨gk, false, 0⟩)[k]? = some ⟨gk, false, 0⟩ from List.getElem?_set_self (by rw [loadSl_len]; exact hlt))
          obtain ⟨v0, v1, v2, v3⟩ := T1.out.c
          have x2 := HXX.out W1 B1.out
          have s2 : W1.cell? ⟨g2, k, none⟩ = some (.bool false) := bool_cell M1.out.r2 (by rw [List.getElem?_map, HX1.out]; rfl)
          have s2f := M1.out.fz2 k
          have M2 := Lib.hid (show RT ((W1.setCell ⟨g2, k, none⟩ (.bool tk)).drew) (w.heap.size + 1) n (some ⟨g1, 0, none⟩) d1 (some ⟨g2, 0, none⟩) d2 (some ⟨g3, 0, none⟩) d3 ((loadSl gs ts hs k n).set k ⟨gk, tk, 0⟩) by
            have h := M1.out.set2 HX1.out tk
            rw [List.set_set] at h
            exact h.below (below_drewN' (Below.refl _ _) 1))
          have C2 : Chg (fun b => b = g2) W1 ((W1.setCell ⟨g2, k, none⟩ (.bool tk)).drew) := ((Chg.refl (fun b => b = g2) W1).setCell ⟨g2, k, none⟩ _ rfl).drew
          have T2 := Lib.hid (T1.out.chg C2 hne2)
          have V2 := Lib.hid (V1.out.chg C2 (by show ¬ w.heap.size = g2; omega))
          have B2 := Lib.hid (B1.out.trans (C2.below B1.out.size (fun b e => by have e' : b = g2 := e; omega)))
          have x2d := HXX.out _ B2.out
          have x2s : (W1.setCell ⟨g2, k, none⟩ (.bool tk)).cell? (ad2.add k) = some (.bool tk) := x2d
          clear x2d
          clear C2 M1
          apply merge
          · intro H
            go_region_with (fail)
            all_goals exact H.out
          cases tk with
          | false =>
            have HM2 := Lib.hid (show RT ((W1.setCell ⟨g2, k, none⟩ (.bool false)).drew) (w.heap.size + 1) n (some ⟨g1, 0, none⟩) d1 (some ⟨g2, 0, none⟩) d2 (some ⟨g3, 0, none⟩) d3 (loadSl gs ts hs (k + 1) n) by rw [← HLD.out]; exact M2.out)
            go_wp2
            go_roundw
            case rel => exact ⟨k + 1, by omega, by go_num, c, by omega, rfl, Lib.hid (by rw [HCS.out]; simpa using hC.out), HM2, T2, V2, B2⟩
            case measure => simp [intOf]; omega
          | true =>
            have hcq : c < q := by rw [hC.out]; exact HCL.out rfl
            go_wp2_with fail
            generalize (W1.setCell ⟨g2, k, none⟩ (.bool true)).drew = W3 at M2 T2 V2 B2 ⊢
            clear x2 v0 v1 v2 v3 s2 s2f x2s T1 V1 B1
            have HX2 := Lib.hid (show ((loadSl gs ts hs k n).set k ⟨gk, true, 0⟩)[k]? = some ⟨gk, true, 0⟩ from List.getElem?_set_self (by rw [loadSl_len]; exact hlt))
            obtain ⟨v0, v1, v2, v3⟩ := T2.out.c
            obtain ⟨ad3, rfl, x3⟩ := cell_int (Kd.C_below LA.out.a3 B2.out) hcq
            have HA3 := Lib.hid (show hs.getD c 0 = hs.getD (cntT ts k) 0 by rw [hC.out])
            generalize hs.getD c 0 = a3 at x3 HA3
            have s3 : W3.cell? ⟨g3, k, none⟩ = some (.int .i64 0) := int_cell M2.out.r3 (by rw [List.getElem?_map, HX2.out]; rfl)
            have s3f := M2.out.fz3 k
            have M3 := Lib.hid (show RT ((W3.setCell ⟨g3, k, none⟩ (.int .i64 a3)).drew) (w.heap.size + 1) n (some ⟨g1, 0, none⟩) d1 (some ⟨g2, 0, none⟩) d2 (some ⟨g3, 0, none⟩) d3 (loadSl gs ts hs (k + 1) n) by
              have h := M2.out.set3 HX2.out a3
              rw [List.set_set] at h
              rw [← HLD.out, if_pos trivial, ← HA3.out]
              exact h.below (below_drewN' (Below.refl _ _) 1))
            have C3 : Chg (fun b => b = g3) W3 ((W3.setCell ⟨g3, k, none⟩ (.int .i64 a3)).drew) := ((Chg.refl (fun b => b = g3) W3).setCell ⟨g3, k, none⟩ _ rfl).drew
            have T3 := Lib.hid (T2.out.chg C3 hne3)
            have V3 := Lib.hid (V2.out.chg C3 (by show ¬ w.heap.size = g3; omega))
            have B3 := Lib.hid (B2.out.trans (C3.below B2.out.size (fun b e => by have e' : b = g3 := e; omega)))
            clear C3
            apply merge
            · intro H
              go_region_with (fail)
              all_goals exact H.out
            go_wp2
            go_roundw
            case rel => exact ⟨k + 1, by omega, by go_num, c + 1, by omega, by go_num, Lib.hid (by rw [HCS.out, hC.out]; rfl), M3, T3, V3, B3⟩
            case measure => simp [intOf]; omega
        · obtain rfl : k = n := by omega
          obtain ⟨v0, v1, v2, v3⟩ := hT.out.c
          obtain ⟨z0, z1, z2, z3⟩ := hV.out.c
          have f0 := hV.out.f 0
          have f1 := hV.out.f 1
          have f2 := hV.out.f 2
          have f3 := hV.out.f 3
          go_wp2
          refine bodyPost_ret (v := .tuple #[.agg #[.int .i64 kind, .slice (some ⟨g1, 0, none⟩) k d1, .slice (some ⟨g2, 0, none⟩) k d2, .slice (some ⟨g3, 0, none⟩) k d3], .int .i64 0]) (by simp [results, Tryd.results21, go_sem, z0, z1, z2, z3]) rfl (.inl ⟨HO.out, HQ.out.symm, _, _, _, _, _, _, rfl, ?_, ?_⟩)
          · exact (hR.out.chg (chg_set4 wr w.heap.size _ _ _ _) (fun b e => by
              have e' : b = w.heap.size := e
              subst e'
              intro ho
              have := (hR.out.base ho).1
              omega)).lower (Nat.le_succ _)
          · exact hB.out.trans ((chg_set4 wr w.heap.size _ _ _ _).below hB.out.size (fun b e => by rw [e]; exact Nat.le_refl _))
    · have t1 : ((q : Int) == (p : Int)) = false := by simp; omega
      have t2 : (q == p) = false := by simp; omega
      have HBad := Lib.hid (show ¬ ((∀ i, i < n → okGen gs ts i) ∧ cntT ts n = p) from fun h => hqp (by rw [HQ.out]; exact h.2))
      clear hqp
      obtain ⟨z0, z1, z2, z3⟩ := HV.out.c
      have f0 := HV.out.f 0
      have f1 := HV.out.f 1
      have f2 := HV.out.f 2
      have f3 := HV.out.f 3
      go_wp2
      refine bodyPost_ret (v := .tuple #[.agg #[.int .i64 0, .slice none 0 0, .slice none 0 0, .slice none 0 0], .int .i64 270]) (by simp [results, Tryd.results21, go_sem, z0, z1, z2, z3]) rfl (.inr ⟨HBad.out, rfl, HB.out.trans ((chg_set4 w2 w.heap.size _ _ _ _).below HB.out.size (fun k hk => by rw [hk]; exact Nat.le_refl _))⟩)
  · have HBad := Lib.hid (show ¬ ((∀ i, i < n → okGen gs ts i) ∧ cntT ts n = p) from fun h => hbad h.1)
    clear hbad
    obtain ⟨z0, z1, z2, z3⟩ := HV.out.c
    have f0 := HV.out.f 0
    have f1 := HV.out.f 1
    have f2 := HV.out.f 2
    have f3 := HV.out.f 3
    go_wp2
    refine bodyPost_ret (v := .tuple #[.agg #[.int .i64 0, .slice none 0 0, .slice none 0 0, .slice none 0 0], .int .i64 270]) (by simp [results, Tryd.results21, go_sem, z0, z1, z2, z3]) rfl (.inr ⟨HBad.out, rfl, HB.out.trans ((chg_set4 w2 w.heap.size _ _ _ _).below HB.out.size (fun k hk => by rw [hk]; exact Nat.le_refl _))⟩)
end
end Go.Proofs.YtgjlkplieoajlaaDoor
