/- The reference's table, in plain Lean: what its functions tell of a row of slots. -/
import Derived.Test.YtgjlkplieoajlaaDoorSl7
set_option linter.unusedVariables false
set_option linter.unusedSimpArgs false
namespace Go.Proofs.YtgjlkplieoajlaaDoor
open Go.RowKit
open Go.Proofs.YtgjlkplieoajlaaDoorW.PrintWords (Kd Drawn0 Kept rd rdOf)
open Go.Proofs.YtgjlkplieoajlaaDoor.PSlotsTwins

abbrev gens (xs : List Sl) : List Int := xs.map (·.f0)
abbrev tks (xs : List Sl) : List Bool := xs.map (·.f1)
abbrev ths (xs : List Sl) : List Int := xs.map (·.f2)

theorem rd_gens {xs : List Sl} {i : Nat} {x : Sl} (h : xs[i]? = some x) : rd (gens xs) (i : Int) = x.f0 := by
  unfold rd; simp [h]
theorem rd_tks {xs : List Sl} {i : Nat} {x : Sl} (h : xs[i]? = some x) : rdOf false (tks xs) (i : Int) = x.f1 := by
  unfold rdOf; simp [h]
theorem rd_ths {xs : List Sl} {i : Nat} {x : Sl} (h : xs[i]? = some x) : rd (ths xs) (i : Int) = x.f2 := by
  unfold rd; simp [h]
theorem wrap_nat {k : Nat} (h : k < 4097) : wrap64 ((k : Int) + 1) = ((k + 1 : Nat) : Int) := by unfold wrap64; omega

theorem rmake_f {kind : Int} {n : Nat} {xs : List Sl} (hT : Tk kind n xs) {i : Nat} {x : Sl} (hx : xs[i]? = some x) : titheref03_Make.f kind (i : Int) x.f0 = some (mk kind i x.f0) := by
  have h1 := (List.getElem?_eq_some_iff.1 hx).1
  have h2 := hT.len
  have h3 := hT.n1
  have h4 := hT.gen i x hx
  unfold titheref03_Make.f
  rw [or_mk kind i x.f0 hT.k0 hT.k3 (by omega) (by omega) (by omega) (by omega)]

theorem rfree_hit {kind : Int} {n : Nat} {xs : List Sl} (hT : Tk kind n xs) {i : Nat} {x : Sl} (hx : xs[i]? = some x) (hf : FreeSl x) (ha : ∀ (j : Nat) (y : Sl), j < i → xs[j]? = some y → ¬ FreeSl y) :
    ∀ (d k j : Nat), j + d = i → d < k → titheref03_Free.l0 k (j : Int) kind (gens xs) (tks xs) (ths xs) = some (i : Int) := by
  have hn := hT.len
  have hm := hT.n1
  have hi := (List.getElem?_eq_some_iff.1 hx).1
  intro d
  induction d with
  | zero =>
    intro k j hj hk
    obtain ⟨k, rfl⟩ : ∃ m, k = m + 1 := ⟨k - 1, by omega⟩
    obtain rfl : j = i := by omega
    simp only [titheref03_Free.l0]
    rw [if_pos (by simp; omega), if_pos (by omega), if_pos (by simp; omega), rd_tks hx, if_neg (by rw [hf.1]; decide), rd_gens hx, if_pos hf.2]
  | succ d ih =>
    intro k j hj hk
    obtain ⟨k, rfl⟩ : ∃ m, k = m + 1 := ⟨k - 1, by omega⟩
    obtain ⟨y, hy⟩ : ∃ y, xs[j]? = some y := ⟨xs[j], List.getElem?_eq_getElem (by omega)⟩
    have hno := ha j y (by omega) hy
    have := ih k (j + 1) (by omega) (by omega)
    simp only [titheref03_Free.l0]
    rw [if_pos (by simp; omega), if_pos (by omega), if_pos (by simp; omega), rd_tks hy, rd_gens hy, wrap_nat (by omega)]
    split
    · exact this
    · rename_i e
      rw [if_neg (fun h => hno ⟨by simpa using e, h⟩)]
      exact this

theorem rfree_none {kind : Int} {n : Nat} {xs : List Sl} (hT : Tk kind n xs) (ha : ∀ (j : Nat) (y : Sl), xs[j]? = some y → ¬ FreeSl y) :
    ∀ (d k j : Nat), j + d = n → d < k → titheref03_Free.l0 k (j : Int) kind (gens xs) (tks xs) (ths xs) = some (-1) := by
  have hn := hT.len
  have hm := hT.n1
  intro d
  induction d with
  | zero =>
    intro k j hj hk
    obtain ⟨k, rfl⟩ : ∃ m, k = m + 1 := ⟨k - 1, by omega⟩
    simp only [titheref03_Free.l0]
    rw [if_neg (by simp; omega)]
  | succ d ih =>
    intro k j hj hk
    obtain ⟨k, rfl⟩ : ∃ m, k = m + 1 := ⟨k - 1, by omega⟩
    obtain ⟨y, hy⟩ : ∃ y, xs[j]? = some y := ⟨xs[j], List.getElem?_eq_getElem (by omega)⟩
    have hno := ha j y hy
    have := ih k (j + 1) (by omega) (by omega)
    simp only [titheref03_Free.l0]
    rw [if_pos (by simp; omega), if_pos (by omega), if_pos (by simp; omega), rd_tks hy, rd_gens hy, wrap_nat (by omega)]
    split
    · exact this
    · rename_i e
      rw [if_neg (fun h => hno ⟨by simpa using e, h⟩)]
      exact this

theorem at_unique {kind h : Int} {n : Nat} {xs : List Sl} (hT : Tk kind n xs) {i j : Nat} {x y : Sl} (h1 : At kind h xs i x) (h2 : At kind h xs j y) : i = j := by
  have hn := hT.len
  have hm := hT.n1
  have a1 := (List.getElem?_eq_some_iff.1 h1.1).1
  have a2 := (List.getElem?_eq_some_iff.1 h2.1).1
  have b1 := hT.gen i x h1.1
  have b2 := hT.gen j y h2.1
  have c := h1.2.2.trans h2.2.2.symm
  unfold mk at c
  omega

theorem rfind_hit {kind h : Int} {n : Nat} {xs : List Sl} (hT : Tk kind n xs) {i : Nat} {x : Sl} (hx : At kind h xs i x) :
    ∀ (d k j : Nat), j + d = i → d < k → titheref03_Find.l0 k h (j : Int) kind (gens xs) (tks xs) (ths xs) = some (i : Int) := by
  have hn := hT.len
  have hm := hT.n1
  have hi := (List.getElem?_eq_some_iff.1 hx.1).1
  intro d
  induction d with
  | zero =>
    intro k j hj hk
    obtain ⟨k, rfl⟩ : ∃ m, k = m + 1 := ⟨k - 1, by omega⟩
    obtain rfl : j = i := by omega
    simp only [titheref03_Find.l0]
    rw [if_pos (by simp; omega), if_pos (by omega), if_pos (by simp; omega), rd_tks hx.1, if_pos hx.2.1, rd_gens hx.1, rmake_f hT hx.1]
    simp only [Option.bind_some]
    rw [if_pos hx.2.2]
  | succ d ih =>
    intro k j hj hk
    obtain ⟨k, rfl⟩ : ∃ m, k = m + 1 := ⟨k - 1, by omega⟩
    obtain ⟨y, hy⟩ : ∃ y, xs[j]? = some y := ⟨xs[j], List.getElem?_eq_getElem (by omega)⟩
    have := ih k (j + 1) (by omega) (by omega)
    simp only [titheref03_Find.l0]
    rw [if_pos (by simp; omega), if_pos (by omega), if_pos (by simp; omega), rd_tks hy, rd_gens hy, wrap_nat (by omega), rmake_f hT hy]
    simp only [Option.bind_some]
    split
    · rename_i e
      rw [if_neg (fun c => by have := at_unique hT hx ⟨hy, e, c⟩; omega)]
      exact this
    · exact this

theorem rfind_none {kind h : Int} {n : Nat} {xs : List Sl} (hT : Tk kind n xs) (ha : NoAt kind h xs) :
    ∀ (d k j : Nat), j + d = n → d < k → titheref03_Find.l0 k h (j : Int) kind (gens xs) (tks xs) (ths xs) = some (-1) := by
  have hn := hT.len
  have hm := hT.n1
  intro d
  induction d with
  | zero =>
    intro k j hj hk
    obtain ⟨k, rfl⟩ : ∃ m, k = m + 1 := ⟨k - 1, by omega⟩
    simp only [titheref03_Find.l0]
    rw [if_neg (by simp; omega)]
  | succ d ih =>
    intro k j hj hk
    obtain ⟨k, rfl⟩ : ∃ m, k = m + 1 := ⟨k - 1, by omega⟩
    obtain ⟨y, hy⟩ : ∃ y, xs[j]? = some y := ⟨xs[j], List.getElem?_eq_getElem (by omega)⟩
    have := ih k (j + 1) (by omega) (by omega)
    simp only [titheref03_Find.l0]
    rw [if_pos (by simp; omega), if_pos (by omega), if_pos (by simp; omega), rd_tks hy, rd_gens hy, wrap_nat (by omega), rmake_f hT hy]
    simp only [Option.bind_some]
    split
    · rename_i e
      rw [if_neg (fun c => ha j y ⟨hy, e, c⟩)]
      exact this
    · exact this

theorem rall_f {kind : Int} {n : Nat} {xs : List Sl} (hT : Tk kind n xs) :
    ∀ (d k j : Nat), j + d = n → d < k → titheref03_All.l0 k (allH kind (xs.take j)) (j : Int) kind (gens xs) (tks xs) (ths xs) = some (allH kind xs) := by
  have hn := hT.len
  have hm := hT.n1
  intro d
  induction d with
  | zero =>
    intro k j hj hk
    obtain ⟨k, rfl⟩ : ∃ m, k = m + 1 := ⟨k - 1, by omega⟩
    simp only [titheref03_All.l0]
    rw [if_neg (by simp; omega), List.take_of_length_le (by omega)]
  | succ d ih =>
    intro k j hj hk
    obtain ⟨k, rfl⟩ : ∃ m, k = m + 1 := ⟨k - 1, by omega⟩
    obtain ⟨y, hy⟩ : ∃ y, xs[j]? = some y := ⟨xs[j], List.getElem?_eq_getElem (by omega)⟩
    have := ih k (j + 1) (by omega) (by omega)
    rw [all_take kind xs j y hy] at this
    have hle : (allH kind (xs.take j)).length ≤ 4096 := by
      have := allF_le kind (xs.take j) 0
      unfold allH
      simp only [List.length_take] at this
      omega
    simp only [titheref03_All.l0]
    rw [if_pos (by simp; omega), if_pos (by omega), if_pos (by simp; omega), rd_tks hy, rd_gens hy, wrap_nat (by omega), rmake_f hT hy]
    simp only [Option.bind_some]
    split
    · rename_i e
      rw [if_pos (by omega)]
      rw [if_pos e] at this
      exact this
    · rename_i e
      rw [if_neg e, List.append_nil] at this
      exact this

theorem rcopy_f {kind : Int} {n : Nat} {xs : List Sl} (hT : Tk kind n xs) : titheref03_Copy.f kind (gens xs) (tks xs) (ths xs) = some (kind, gens xs, tks xs, ths xs) := by
  have hn := hT.len
  have hm := hT.n1
  unfold titheref03_Copy.f
  rw [if_pos (by simp; omega), if_pos (by simp; omega), if_pos (by simp; omega)]
  simp

theorem gens_set (xs : List Sl) (i : Nat) (x : Sl) : gens (xs.set i x) = (gens xs).set i x.f0 := by simp [gens, List.map_set]
theorem tks_set (xs : List Sl) (i : Nat) (x : Sl) : tks (xs.set i x) = (tks xs).set i x.f1 := by simp [tks, List.map_set]
theorem ths_set (xs : List Sl) (i : Nat) (x : Sl) : ths (xs.set i x) = (ths xs).set i x.f2 := by simp [ths, List.map_set]
theorem set_self {α : Type} {xs : List α} {i : Nat} {x : α} (h : xs[i]? = some x) : xs.set i x = xs := by
  obtain ⟨hi, e⟩ := List.getElem?_eq_some_iff.1 h
  rw [← e]; simp
theorem gens_keep {xs : List Sl} {i : Nat} {x : Sl} (h : xs[i]? = some x) (y : Sl) (e : y.f0 = x.f0) : gens (xs.set i y) = gens xs := by
  rw [gens_set, e, set_self]; simp [h]
theorem tks_keep {xs : List Sl} {i : Nat} {x : Sl} (h : xs[i]? = some x) (y : Sl) (e : y.f1 = x.f1) : tks (xs.set i y) = tks xs := by
  rw [tks_set, e, set_self]; simp [h]

theorem radd_hit {kind v : Int} {n : Nat} {xs : List Sl} (hT : Tk kind n xs) {i : Nat} {x : Sl} (hx : xs[i]? = some x) (hf : FreeSl x) (ha : ∀ (j : Nat) (y : Sl), j < i → xs[j]? = some y → ¬ FreeSl y) :
    titheref03_Add.f 5000 kind (gens xs) (tks xs) (ths xs) v = some (kind, gens (xs.set i ⟨x.f0, true, v⟩), tks (xs.set i ⟨x.f0, true, v⟩), ths (xs.set i ⟨x.f0, true, v⟩), mk kind i x.f0, 0) := by
  have hn := hT.len
  have hm := hT.n1
  have hi := (List.getElem?_eq_some_iff.1 hx).1
  unfold titheref03_Add.f titheref03_Free.f
  rw [show (0 : Int) = ((0 : Nat) : Int) from rfl, rfree_hit hT hx hf ha i 5000 0 (by omega) (by omega)]
  simp only [Option.bind_some]
  rw [if_neg (by omega), rcopy_f hT]
  simp only [Option.bind_some]
  rw [if_pos (by omega), if_pos (by simp; omega), if_pos (by simp; omega), if_pos (by simp; omega), rd_gens hx, rmake_f hT hx]
  simp only [Option.bind_some]
  rw [gens_keep hx ⟨x.f0, true, v⟩ rfl, tks_set, ths_set]
  rfl

theorem radd_none {kind v : Int} {n : Nat} {xs : List Sl} (hT : Tk kind n xs) (ha : ∀ (j : Nat) (y : Sl), xs[j]? = some y → ¬ FreeSl y) :
    titheref03_Add.f 5000 kind (gens xs) (tks xs) (ths xs) v = some (kind, gens xs, tks xs, ths xs, 0, 30) := by
  have hm := hT.n1
  unfold titheref03_Add.f titheref03_Free.f
  rw [show (0 : Int) = ((0 : Nat) : Int) from rfl, rfree_none hT ha n 5000 0 (by omega) (by omega)]
  simp only [Option.bind_some]
  rw [if_pos (by omega)]

theorem rget_hit {kind h : Int} {n : Nat} {xs : List Sl} (hT : Tk kind n xs) {i : Nat} {x : Sl} (ha : At kind h xs i x) : titheref03_Get.f 5000 kind (gens xs) (tks xs) (ths xs) h = some (x.f2, 0) := by
  have hn := hT.len
  have hm := hT.n1
  have hi := (List.getElem?_eq_some_iff.1 ha.1).1
  unfold titheref03_Get.f titheref03_Find.f
  rw [show (0 : Int) = ((0 : Nat) : Int) from rfl, rfind_hit hT ha i 5000 0 (by omega) (by omega)]
  simp only [Option.bind_some]
  rw [if_neg (by omega), if_pos (by omega), if_pos (by simp; omega), rd_ths ha.1]

theorem rget_none {kind h : Int} {n : Nat} {xs : List Sl} (hT : Tk kind n xs) (ha : NoAt kind h xs) : titheref03_Get.f 5000 kind (gens xs) (tks xs) (ths xs) h = some (0, 20) := by
  have hm := hT.n1
  unfold titheref03_Get.f titheref03_Find.f
  rw [show (0 : Int) = ((0 : Nat) : Int) from rfl, rfind_none hT ha n 5000 0 (by omega) (by omega)]
  simp only [Option.bind_some]
  rw [if_pos (by omega)]

theorem rset_hit {kind h v : Int} {n : Nat} {xs : List Sl} (hT : Tk kind n xs) {i : Nat} {x : Sl} (ha : At kind h xs i x) :
    titheref03_Set.f 5000 kind (gens xs) (tks xs) (ths xs) h v = some (kind, gens (xs.set i ⟨x.f0, x.f1, v⟩), tks (xs.set i ⟨x.f0, x.f1, v⟩), ths (xs.set i ⟨x.f0, x.f1, v⟩), 0) := by
  have hn := hT.len
  have hm := hT.n1
  have hi := (List.getElem?_eq_some_iff.1 ha.1).1
  unfold titheref03_Set.f titheref03_Find.f
  rw [show (0 : Int) = ((0 : Nat) : Int) from rfl, rfind_hit hT ha i 5000 0 (by omega) (by omega)]
  simp only [Option.bind_some]
  rw [if_neg (by omega), rcopy_f hT]
  simp only [Option.bind_some]
  rw [if_pos (by omega), if_pos (by simp; omega), gens_keep ha.1 ⟨x.f0, x.f1, v⟩ rfl, tks_keep ha.1 ⟨x.f0, x.f1, v⟩ rfl, ths_set]
  rfl

theorem rset_none {kind h v : Int} {n : Nat} {xs : List Sl} (hT : Tk kind n xs) (ha : NoAt kind h xs) : titheref03_Set.f 5000 kind (gens xs) (tks xs) (ths xs) h v = some (kind, gens xs, tks xs, ths xs, 20) := by
  have hm := hT.n1
  unfold titheref03_Set.f titheref03_Find.f
  rw [show (0 : Int) = ((0 : Nat) : Int) from rfl, rfind_none hT ha n 5000 0 (by omega) (by omega)]
  simp only [Option.bind_some]
  rw [if_pos (by omega)]

theorem rdrop_hit {kind h : Int} {n : Nat} {xs : List Sl} (hT : Tk kind n xs) {i : Nat} {x : Sl} (ha : At kind h xs i x) :
    titheref03_Drop.f 5000 kind (gens xs) (tks xs) (ths xs) h = some (kind, gens (xs.set i ⟨x.f0 + 1, false, 0⟩), tks (xs.set i ⟨x.f0 + 1, false, 0⟩), ths (xs.set i ⟨x.f0 + 1, false, 0⟩), 0) := by
  have hn := hT.len
  have hm := hT.n1
  have hi := (List.getElem?_eq_some_iff.1 ha.1).1
  have hg := hT.gen i x ha.1
  unfold titheref03_Drop.f titheref03_Find.f
  rw [show (0 : Int) = ((0 : Nat) : Int) from rfl, rfind_hit hT ha i 5000 0 (by omega) (by omega)]
  simp only [Option.bind_some]
  rw [if_neg (by omega), rcopy_f hT]
  simp only [Option.bind_some]
  rw [if_pos (by omega), if_pos (by simp; omega), if_pos (by simp; omega), if_pos (by simp; omega), gens_set, tks_set, ths_set, rd_gens ha.1, show wrap64 (x.f0 + 1) = x.f0 + 1 by unfold wrap64; omega]
  rfl

theorem rdrop_none {kind h : Int} {n : Nat} {xs : List Sl} (hT : Tk kind n xs) (ha : NoAt kind h xs) : titheref03_Drop.f 5000 kind (gens xs) (tks xs) (ths xs) h = some (kind, gens xs, tks xs, ths xs, 20) := by
  have hm := hT.n1
  unfold titheref03_Drop.f titheref03_Find.f
  rw [show (0 : Int) = ((0 : Nat) : Int) from rfl, rfind_none hT ha n 5000 0 (by omega) (by omega)]
  simp only [Option.bind_some]
  rw [if_pos (by omega)]

theorem rnew_l (kind : Int) (n : Nat) (hn : n ≤ 4096) (A : List Bool) (L : List Int) : ∀ (d k j : Nat), j + d = n → d < k → titheref03_New.l0 k (n : Int) (j : Int) kind (List.replicate j 1) A L = some (kind, List.replicate n 1, A, L, 0) := by
  intro d
  induction d with
  | zero =>
    intro k j hj hk
    obtain ⟨k, rfl⟩ : ∃ m, k = m + 1 := ⟨k - 1, by omega⟩
    obtain rfl : j = n := by omega
    simp only [titheref03_New.l0]
    rw [if_neg (by omega)]
  | succ d ih =>
    intro k j hj hk
    obtain ⟨k, rfl⟩ : ∃ m, k = m + 1 := ⟨k - 1, by omega⟩
    simp only [titheref03_New.l0]
    rw [if_pos (by omega), if_pos (by simp; omega), wrap_nat (by omega)]
    have := ih k (j + 1) (by omega) (by omega)
    rw [List.replicate_succ'] at this
    exact this

theorem rnew_ok {kind : Int} {n : Nat} (k0 : 1 ≤ kind) (k3 : kind ≤ 3) (n0 : 1 ≤ n) (n1 : n ≤ 4096) :
    titheref03_New.f 5000 kind (n : Int) = some (kind, gens (List.replicate n oneSl), tks (List.replicate n oneSl), ths (List.replicate n oneSl), 0) := by
  unfold titheref03_New.f titheref03_Kind.f
  rw [if_pos (by omega)]
  simp only [Option.bind_some]
  rw [if_pos (by simp; omega), if_neg (by omega)]
  simp only [titheref03_New.j0]
  rw [if_neg (by simp; omega), if_pos (by omega), if_pos (by omega), if_pos (by omega)]
  have := rnew_l kind n n1 (List.replicate n false) (List.replicate n 0) n 4999 0 (by omega) (by omega)
  simp only [List.map_replicate, oneSl, Int.toNat_natCast]
  exact this

theorem rnew_bad {kind many : Int} (h : ¬ (1 ≤ kind ∧ kind ≤ 3 ∧ 1 ≤ many ∧ many ≤ 4096)) : titheref03_New.f 5000 kind many = some (0, [], [], [], 1) := by
  unfold titheref03_New.f titheref03_Kind.f
  have j1 : titheref03_New.j0 5000 kind many true = some (0, [], [], [], 1) := by simp only [titheref03_New.j0]; rfl
  by_cases c1 : kind ≥ 1
  · rw [if_pos c1]
    simp only [Option.bind_some]
    by_cases c2 : kind ≤ 3
    · rw [if_pos (by simpa using c2)]
      by_cases c3 : many < 1
      · rw [if_pos c3]; exact j1
      · rw [if_neg c3, show decide (many > 4096) = true from decide_eq_true (by omega)]; exact j1
    · rw [if_neg (by simpa using c2)]; exact j1
  · rw [if_neg c1]
    simp only [Option.bind_some]
    rw [if_neg (by decide)]
    exact j1

end Go.Proofs.YtgjlkplieoajlaaDoor
