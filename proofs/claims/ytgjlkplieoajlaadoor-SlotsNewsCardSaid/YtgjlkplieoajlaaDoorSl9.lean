/- The reference's table in memory; its functions by contract. -/
import Derived.Test.YtgjlkplieoajlaaDoorSl8
set_option linter.unusedVariables false
set_option linter.unusedSimpArgs false
namespace Go.Proofs.YtgjlkplieoajlaaDoor
open Go.RowKit
open Go.Proofs.YtgjlkplieoajlaaDoorW.PrintWords (Kd Drawn0 Kept rd rdOf)
open Go.Proofs.YtgjlkplieoajlaaDoor.PSlotsTwins
set_option maxRecDepth 100000

/-- The world's elder part alone. -/
def cutW (w : World) (B : Nat) : World := { w with heap := w.heap.extract 0 B }
theorem cutW_size {w : World} {B : Nat} (h : B ≤ w.heap.size) : (cutW w B).heap.size = B := by
  unfold cutW; simp; omega
theorem cutW_below {w : World} {B : Nat} (h : B ≤ w.heap.size) : Below (cutW w B).heap.size (cutW w B) w := by
  have hs := cutW_size h
  refine ⟨rfl, rfl, rfl, by omega, fun k hk => ?_⟩
  have hk' : k < B := by omega
  show w.heap[k]? = (w.heap.extract 0 B)[k]?
  rw [Array.getElem?_extract]
  simp [hk']; omega

/-- The reference's table: its three rows. -/
structure RT (w : World) (B n : Nat) (A1 : Option Addr) (c1 : Nat) (A2 : Option Addr) (c2 : Nat) (A3 : Option Addr) (c3 : Nat) (xs : List Sl) : Prop where
  sz : B ≤ w.heap.size
  len : xs.length = n
  r1 : (Kd.int .i64).R 3 w B (fun k => (Value.slice A1 n c1).ownBlock = some k) (.slice A1 n c1) (gens xs)
  r2 : Kd.bool.R 4 w B (fun k => (Value.slice A2 n c2).ownBlock = some k) (.slice A2 n c2) (tks xs)
  r3 : (Kd.int .i64).R 3 w B (fun k => (Value.slice A3 n c3).ownBlock = some k) (.slice A3 n c3) (ths xs)
  ne : ∀ k, (Value.slice A1 n c1).ownBlock = some k → ¬ (Value.slice A3 n c3).ownBlock = some k

/-- The blocks of the three rows. -/
def Own3 (n : Nat) (A1 : Option Addr) (c1 : Nat) (A2 : Option Addr) (c2 : Nat) (A3 : Option Addr) (c3 : Nat) (k : Nat) : Prop :=
  (Value.slice A1 n c1).ownBlock = some k ∨ (Value.slice A2 n c2).ownBlock = some k ∨ (Value.slice A3 n c3).ownBlock = some k

section
variable {w w' : World} {B n : Nat} {A1 : Option Addr} {c1 : Nat} {A2 : Option Addr} {c2 : Nat} {A3 : Option Addr} {c3 : Nat} {xs : List Sl}
theorem RT.chg (h : RT w B n A1 c1 A2 c2 A3 c3 xs) {S : Nat → Prop} (hc : Chg S w w') (hS : ∀ k, S k → ¬ Own3 n A1 c1 A2 c2 A3 c3 k) : RT w' B n A1 c1 A2 c2 A3 c3 xs :=
  ⟨Nat.le_trans h.sz hc.size, h.len,
    Kd.R_step h.r1 (fun k hk hlt => hc.block k hlt (fun hs => hS k hs (.inl hk))),
    Kd.R_step h.r2 (fun k hk hlt => hc.block k hlt (fun hs => hS k hs (.inr (.inl hk)))),
    Kd.R_step h.r3 (fun k hk hlt => hc.block k hlt (fun hs => hS k hs (.inr (.inr hk)))), h.ne⟩
theorem RT.below (h : RT w B n A1 c1 A2 c2 A3 c3 xs) (hb : Below w.heap.size w w') : RT w' B n A1 c1 A2 c2 A3 c3 xs :=
  h.chg (Chg.ofBelow hb (fun _ => False)) (fun _ f => f.elim)
theorem RT.base (h : RT w B n A1 c1 A2 c2 A3 c3 xs) {k : Nat} (hk : Own3 n A1 c1 A2 c2 A3 c3 k) : B ≤ k ∧ k < w.heap.size := by
  rcases hk with e | e | e
  · exact ⟨Kd.R_base h.r1 k e, Kd.R_lt h.r1 k e⟩
  · exact ⟨Kd.R_base h.r2 k e, Kd.R_lt h.r2 k e⟩
  · exact ⟨Kd.R_base h.r3 k e, Kd.R_lt h.r3 k e⟩
theorem RT.lower (h : RT w B n A1 c1 A2 c2 A3 c3 xs) {B' : Nat} (hb : B' ≤ B) : RT w B' n A1 c1 A2 c2 A3 c3 xs :=
  ⟨Nat.le_trans hb h.sz, h.len, Kd.R_lower h.r1 hb, Kd.R_lower h.r2 hb, Kd.R_lower h.r3 hb, h.ne⟩
end

theorem chg_of_kept {w0 w w' : World} {B : Nat} {S : Nat → Prop} (hb : Below B w0 w) (hb' : Below B w0 w') (hk : Kept w w' S) : Chg S w w' :=
  ⟨hb'.os.trans hb.os.symm, hb'.tape.trans hb.tape.symm, hb'.output.trans hb.output.symm, hk.1, hk.2⟩

/-- Out of what the printed contracts tell. -/
theorem RT.of {w : World} {B n : Nat} {v1 v2 v3 : Value} {xs : List Sl} {p1 p2 p3 : Nat → Prop} (sz : B ≤ w.heap.size) (len : xs.length = n)
    (r1 : (Kd.int .i64).R 3 w B (fun k => p1 k ∧ some k ≠ v3.ownBlock) v1 (gens xs)) (r2 : Kd.bool.R 4 w B p2 v2 (tks xs)) (r3 : (Kd.int .i64).R 3 w B p3 v3 (ths xs)) :
    ∃ A1 c1 A2 c2 A3 c3, v1 = .slice A1 n c1 ∧ v2 = .slice A2 n c2 ∧ v3 = .slice A3 n c3 ∧ RT w B n A1 c1 A2 c2 A3 c3 xs := by
  obtain ⟨A1, c1, e1⟩ := Kd.R_slice r1
  obtain ⟨A2, c2, e2⟩ := Kd.R_slice r2
  obtain ⟨A3, c3, e3⟩ := Kd.R_slice r3
  have l1 : (gens xs).length = n := by simpa using len
  have l2 : (tks xs).length = n := by simpa using len
  have l3 : (ths xs).length = n := by simpa using len
  rw [l1] at e1; rw [l2] at e2; rw [l3] at e3
  subst e1; subst e2; subst e3
  refine ⟨A1, c1, A2, c2, A3, c3, rfl, rfl, rfl, sz, len, Kd.R_of_own (Kd.own_of_R r1) (fun _ h => h), Kd.R_of_own (Kd.own_of_R r2) (fun _ h => h), Kd.R_of_own (Kd.own_of_R r3) (fun _ h => h), ?_⟩
  intro k h1 h3
  exact (r1.1 k h1).2 h3.symm

section
variable {w : World} {B n : Nat} {A1 : Option Addr} {c1 : Nat} {A2 : Option Addr} {c2 : Nat} {A3 : Option Addr} {c3 : Nat} {xs ys : List Sl} {kind : Int}

theorem radd_c (R : RT w B n A1 c1 A2 c2 A3 c3 xs) (v h er : Int) (hy : ys.length = n) (E : titheref03_Add.f 5000 kind (gens xs) (tks xs) (ths xs) v = some (kind, gens ys, tks ys, ths ys, h, er)) :
    Calls Tryd.prog 45 #[.agg #[.int .i64 kind, .slice A1 n c1, .slice A2 n c2, .slice A3 n c3], .int .i64 v] w fun e w' => ∃ B1 d1 B2 d2 B3 d3, e = .returned (.tuple #[.agg #[.int .i64 kind, .slice B1 n d1, .slice B2 n d2, .slice B3 n d3], .int .i64 h, .int .i64 er]) ∧ RT w' B n B1 d1 B2 d2 B3 d3 ys ∧ Chg (Own3 n A1 c1 A2 c2 A3 c3) w w' := by
  have hs := cutW_size R.sz
  refine (titheref03_Add.calls 5000 kind _ (.slice A1 n c1) (gens xs) _ (.slice A2 n c2) (tks xs) _ (.slice A3 n c3) (ths xs) v kind (gens ys) (tks ys) (ths ys) h er (cutW w B) w (cutW_below R.sz) (by rw [hs]; exact R.r1) R.ne (by rw [hs]; exact R.r2) (by rw [hs]; exact R.r3) (fun k h3 h1 => R.ne k h1 h3) E).mono ?_
  rintro e w' ⟨v1, v2, v3, rfl, r1, r2, r3, hb, hk⟩
  rw [hs] at r1 r2 r3
  obtain ⟨B1, d1, B2, d2, B3, d3, rfl, rfl, rfl, hR⟩ := RT.of (Nat.le_trans R.sz hk.1) hy r1 r2 r3
  exact ⟨B1, d1, B2, d2, B3, d3, rfl, hR, chg_of_kept (cutW_below R.sz) hb hk⟩

theorem rset_c (R : RT w B n A1 c1 A2 c2 A3 c3 xs) (h v er : Int) (hy : ys.length = n) (E : titheref03_Set.f 5000 kind (gens xs) (tks xs) (ths xs) h v = some (kind, gens ys, tks ys, ths ys, er)) :
    Calls Tryd.prog 47 #[.agg #[.int .i64 kind, .slice A1 n c1, .slice A2 n c2, .slice A3 n c3], .int .i64 h, .int .i64 v] w fun e w' => ∃ B1 d1 B2 d2 B3 d3, e = .returned (.tuple #[.agg #[.int .i64 kind, .slice B1 n d1, .slice B2 n d2, .slice B3 n d3], .int .i64 er]) ∧ RT w' B n B1 d1 B2 d2 B3 d3 ys ∧ Chg (Own3 n A1 c1 A2 c2 A3 c3) w w' := by
  have hs := cutW_size R.sz
  refine (titheref03_Set.calls 5000 kind _ (.slice A1 n c1) (gens xs) _ (.slice A2 n c2) (tks xs) _ (.slice A3 n c3) (ths xs) h v kind (gens ys) (tks ys) (ths ys) er (cutW w B) w (cutW_below R.sz) (by rw [hs]; exact R.r1) R.ne (by rw [hs]; exact R.r2) (by rw [hs]; exact R.r3) (fun k h3 h1 => R.ne k h1 h3) E).mono ?_
  rintro e w' ⟨v1, v2, v3, rfl, r1, r2, r3, hb, hk⟩
  rw [hs] at r1 r2 r3
  obtain ⟨B1, d1, B2, d2, B3, d3, rfl, rfl, rfl, hR⟩ := RT.of (Nat.le_trans R.sz hk.1) hy r1 r2 r3
  exact ⟨B1, d1, B2, d2, B3, d3, rfl, hR, chg_of_kept (cutW_below R.sz) hb hk⟩

theorem rdrop_c (R : RT w B n A1 c1 A2 c2 A3 c3 xs) (h er : Int) (hy : ys.length = n) (E : titheref03_Drop.f 5000 kind (gens xs) (tks xs) (ths xs) h = some (kind, gens ys, tks ys, ths ys, er)) :
    Calls Tryd.prog 48 #[.agg #[.int .i64 kind, .slice A1 n c1, .slice A2 n c2, .slice A3 n c3], .int .i64 h] w fun e w' => ∃ B1 d1 B2 d2 B3 d3, e = .returned (.tuple #[.agg #[.int .i64 kind, .slice B1 n d1, .slice B2 n d2, .slice B3 n d3], .int .i64 er]) ∧ RT w' B n B1 d1 B2 d2 B3 d3 ys ∧ Chg (Own3 n A1 c1 A2 c2 A3 c3) w w' := by
  have hs := cutW_size R.sz
  refine (titheref03_Drop.calls 5000 kind _ (.slice A1 n c1) (gens xs) _ (.slice A2 n c2) (tks xs) _ (.slice A3 n c3) (ths xs) h kind (gens ys) (tks ys) (ths ys) er (cutW w B) w (cutW_below R.sz) (by rw [hs]; exact R.r1) R.ne (by rw [hs]; exact R.r2) (by rw [hs]; exact R.r3) (fun k h3 h1 => R.ne k h1 h3) E).mono ?_
  rintro e w' ⟨v1, v2, v3, rfl, r1, r2, r3, hb, hk⟩
  rw [hs] at r1 r2 r3
  obtain ⟨B1, d1, B2, d2, B3, d3, rfl, rfl, rfl, hR⟩ := RT.of (Nat.le_trans R.sz hk.1) hy r1 r2 r3
  exact ⟨B1, d1, B2, d2, B3, d3, rfl, hR, chg_of_kept (cutW_below R.sz) hb hk⟩

theorem RT.rc1 (R : RT w B n A1 c1 A2 c2 A3 c3 xs) : (Kd.int .i64).C w A1 n (gens xs) ∧ n ≤ c1 := by
  have h := Kd.R_reads' R.r1
  rw [← h.1] at h
  exact ⟨h.2.2, h.2.1⟩
theorem RT.rc2 (R : RT w B n A1 c1 A2 c2 A3 c3 xs) : Kd.bool.C w A2 n (tks xs) ∧ n ≤ c2 := by
  have h := Kd.R_reads' R.r2
  rw [← h.1] at h
  exact ⟨h.2.2, h.2.1⟩
theorem RT.rc3 (R : RT w B n A1 c1 A2 c2 A3 c3 xs) : (Kd.int .i64).C w A3 n (ths xs) ∧ n ≤ c3 := by
  have h := Kd.R_reads' R.r3
  rw [← h.1] at h
  exact ⟨h.2.2, h.2.1⟩

theorem rget_c (R : RT w B n A1 c1 A2 c2 A3 c3 xs) (h r er : Int) (E : titheref03_Get.f 5000 kind (gens xs) (tks xs) (ths xs) h = some (r, er)) :
    Calls Tryd.prog 46 #[.agg #[.int .i64 kind, .slice A1 n c1, .slice A2 n c2, .slice A3 n c3], .int .i64 h] w fun e w' => e = .returned (.tuple #[.int .i64 r, .int .i64 er]) ∧ Below w.heap.size w w' := by
  have l1 : (gens xs).length = n := by simpa using R.len
  have l2 : (tks xs).length = n := by simpa using R.len
  have l3 : (ths xs).length = n := by simpa using R.len
  have := titheref03_Get.calls 5000 kind A1 c1 (gens xs) A2 c2 (tks xs) A3 c3 (ths xs) h r er w (by rw [l1]; exact R.rc1.1) (by rw [l1]; exact R.rc1.2) (by rw [l2]; exact R.rc2.1) (by rw [l2]; exact R.rc2.2) (by rw [l3]; exact R.rc3.1) (by rw [l3]; exact R.rc3.2) E
  rw [l1, l2, l3] at this
  exact this

theorem rall_c (R : RT w B n A1 c1 A2 c2 A3 c3 xs) (hT : Tk kind n xs) :
    Calls Tryd.prog 41 #[.agg #[.int .i64 kind, .slice A1 n c1, .slice A2 n c2, .slice A3 n c3]] w fun e w' => ∃ v, e = .returned v ∧ (Kd.int .i64).R 39 w' w.heap.size (fun _ => True) v (allH kind xs) ∧ Below w.heap.size w w' := by
  have l1 : (gens xs).length = n := by simpa using R.len
  have l2 : (tks xs).length = n := by simpa using R.len
  have l3 : (ths xs).length = n := by simpa using R.len
  have hm := hT.n1
  have := titheref03_All.calls 5000 kind A1 c1 (gens xs) A2 c2 (tks xs) A3 c3 (ths xs) (allH kind xs) w (by rw [l1]; exact R.rc1.1) (by rw [l1]; exact R.rc1.2) (by rw [l2]; exact R.rc2.1) (by rw [l2]; exact R.rc2.2) (by rw [l3]; exact R.rc3.1) (by rw [l3]; exact R.rc3.2) (by
    unfold titheref03_All.f
    exact rall_f hT n 5000 0 (by omega) (by omega))
  rw [l1, l2, l3] at this
  exact this
end

theorem rnew_c (kind : Int) (n : Nat) (w : World) (k0 : 1 ≤ kind) (k3 : kind ≤ 3) (n0 : 1 ≤ n) (n1 : n ≤ 4096) :
    Calls Tryd.prog 10 #[.int .i64 kind, .int .i64 (n : Int)] w fun e w' => ∃ B1 d1 B2 d2 B3 d3, e = .returned (.tuple #[.agg #[.int .i64 kind, .slice B1 n d1, .slice B2 n d2, .slice B3 n d3], .int .i64 0]) ∧ RT w' w.heap.size n B1 d1 B2 d2 B3 d3 (List.replicate n oneSl) ∧ Below w.heap.size w w' := by
  refine (titheref03_New.calls 5000 kind (n : Int) _ _ _ _ _ w (rnew_ok k0 k3 n0 n1)).mono ?_
  rintro e w' ⟨v1, v2, v3, rfl, r1, r2, r3, hb⟩
  obtain ⟨B1, d1, B2, d2, B3, d3, rfl, rfl, rfl, hR⟩ := RT.of (n := n) hb.size (by simp) (Kd.R_mono r1 (fun _ h => ⟨trivial, h⟩)) r2 r3
  exact ⟨B1, d1, B2, d2, B3, d3, rfl, hR, hb⟩

theorem rnew_bad_c (kind many : Int) (w : World) (h : ¬ (1 ≤ kind ∧ kind ≤ 3 ∧ 1 ≤ many ∧ many ≤ 4096)) :
    Calls Tryd.prog 10 #[.int .i64 kind, .int .i64 many] w fun e w' => ∃ B1 d1 B2 d2 B3 d3, e = .returned (.tuple #[.agg #[.int .i64 0, .slice B1 0 d1, .slice B2 0 d2, .slice B3 0 d3], .int .i64 1]) ∧ Below w.heap.size w w' := by
  refine (titheref03_New.calls 5000 kind many _ _ _ _ _ w (rnew_bad h)).mono ?_
  rintro e w' ⟨v1, v2, v3, rfl, r1, r2, r3, hb⟩
  obtain ⟨B1, d1, rfl⟩ := Kd.R_slice r1
  obtain ⟨B2, d2, rfl⟩ := Kd.R_slice r2
  obtain ⟨B3, d3, rfl⟩ := Kd.R_slice r3
  exact ⟨B1, d1, B2, d2, B3, d3, rfl, hb⟩

end Go.Proofs.YtgjlkplieoajlaaDoor
