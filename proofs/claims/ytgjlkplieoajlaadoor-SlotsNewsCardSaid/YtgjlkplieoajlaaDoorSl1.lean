/- A table of slots in memory; name, find. -/
import Derived.Test.YtgjlkplieoajlaaDoorSl0
import Derived.Test.YtgjlkplieoajlaaDoorFq0
set_option linter.unusedVariables false
set_option linter.unusedSimpArgs false
namespace Go.Proofs.YtgjlkplieoajlaaDoor
open Go.RowKit
open Go.Proofs.YtgjlkplieoajlaaDoorW.PrintWords (Kd Drawn0 Kept rd rdOf)
open Go.Proofs.YtgjlkplieoajlaaDoor.PSlotsTwins
set_option maxRecDepth 100000

theorem Chg.setCell {S : Nat → Prop} {a b : World} (h : Chg S a b) (p : Addr) (v : Value) (hp : S p.block) : Chg S a (b.setCell p v) :=
  h.trans ⟨rfl, rfl, rfl, by simp, fun k _ hn => heap_setCell_other b p k v (fun e => hn (by first | (rw [e]; exact hp) | (rw [← e]; exact hp)))⟩

abbrev Sl := S90
abbrev kSl := k90

/-- A table: its block t, its slots' block g. -/
structure TB (w : World) (t g n cap : Nat) (kind : Int) (xs : List Sl) : Prop where
  blk : w.heap[t]? = some (.cells #[.int .i64 kind, .slice (some ⟨g, 0, none⟩) n cap] 88 (0, 0))
  row : kSl.R 90 w 0 (fun k => k = g) (.slice (some ⟨g, 0, none⟩) n cap) xs
  ne : g ≠ t

/-- What a table may be: its kind, its slots. -/
structure Tk (kind : Int) (n : Nat) (xs : List Sl) : Prop where
  k0 : 1 ≤ kind
  k3 : kind ≤ 3
  n0 : 1 ≤ n
  n1 : n ≤ 4096
  len : xs.length = n
  gen : ∀ (i : Nat) (x : Sl), xs[i]? = some x → 1 ≤ x.f0 ∧ x.f0 ≤ 1024
  top : ∀ (i : Nat) (x : Sl), xs[i]? = some x → x.f1 = true → x.f0 ≤ 1023

section
variable {w w' : World} {t g n cap : Nat} {kind : Int} {xs : List Sl}
theorem TB.c0 (h : TB w t g n cap kind xs) : w.cell? ⟨t, 0, none⟩ = some (.int .i64 kind) := by simp [World.cell?, h.blk]
theorem TB.c1 (h : TB w t g n cap kind xs) : w.cell? ⟨t, 1, none⟩ = some (.slice (some ⟨g, 0, none⟩) n cap) := by simp [World.cell?, h.blk]
theorem TB.lt (h : TB w t g n cap kind xs) : t < w.heap.size := (Array.getElem?_eq_some_iff.1 h.blk).1
theorem TB.ltg (h : TB w t g n cap kind xs) : g < w.heap.size := Kd.R_lt h.row g rfl
theorem TB.len (h : TB w t g n cap kind xs) : xs.length = n := (Kd.R_reads' h.row).1.symm
theorem TB.le (h : TB w t g n cap kind xs) : n ≤ cap := (Kd.R_reads' h.row).2.1
theorem TB.elem (h : TB w t g n cap kind xs) {i : Nat} {x : Sl} (hx : xs[i]? = some x) :
    (∀ j u, [Value.int .i64 x.f0, .bool x.f1, .int .i64 x.f2][j]? = some u → w.cell? ⟨g, i * 3 + j, none⟩ = some u) ∧ ∀ j, w.frozen? ⟨g, i * 3 + j, none⟩ = false := by
  have hi : i < xs.length := (List.getElem?_eq_some_iff.1 hx).1
  have hl := h.len
  obtain ⟨c, h1, h2, h3, h4⟩ := Kd.R_elem h.row z90 (i : Int) (by omega) (by omega)
  have e : xs.getD (i : Int).toNat z90 = x := by
    rw [List.getD_eq_getElem?_getD]; simp [hx]
  rw [e] at h2
  have h2' := k90_openM h2
  subst h2'
  exact ⟨fun j u hj => h3 j u hj, fun j => h4 j⟩
theorem TB.e0 (h : TB w t g n cap kind xs) {i : Nat} {x : Sl} (hx : xs[i]? = some x) : w.cell? ⟨g, i * 3, none⟩ = some (.int .i64 x.f0) := (h.elem hx).1 0 _ rfl
theorem TB.e1 (h : TB w t g n cap kind xs) {i : Nat} {x : Sl} (hx : xs[i]? = some x) : w.cell? ⟨g, i * 3 + 1, none⟩ = some (.bool x.f1) := (h.elem hx).1 1 _ rfl
theorem TB.e2 (h : TB w t g n cap kind xs) {i : Nat} {x : Sl} (hx : xs[i]? = some x) : w.cell? ⟨g, i * 3 + 2, none⟩ = some (.int .i64 x.f2) := (h.elem hx).1 2 _ rfl
theorem TB.f0 (h : TB w t g n cap kind xs) {i : Nat} {x : Sl} (hx : xs[i]? = some x) : w.frozen? ⟨g, i * 3, none⟩ = false := (h.elem hx).2 0
theorem TB.f1 (h : TB w t g n cap kind xs) {i : Nat} {x : Sl} (hx : xs[i]? = some x) : w.frozen? ⟨g, i * 3 + 1, none⟩ = false := (h.elem hx).2 1
theorem TB.f2 (h : TB w t g n cap kind xs) {i : Nat} {x : Sl} (hx : xs[i]? = some x) : w.frozen? ⟨g, i * 3 + 2, none⟩ = false := (h.elem hx).2 2
theorem TB.chg (h : TB w t g n cap kind xs) {S : Nat → Prop} (hc : Chg S w w') (h1 : ¬ S t) (h2 : ¬ S g) : TB w' t g n cap kind xs :=
  ⟨hc.heap h.blk h1, Kd.R_step h.row (fun k hk hlt => by obtain rfl : k = g := hk; exact hc.block _ hlt h2), h.ne⟩
theorem TB.below (h : TB w t g n cap kind xs) (hb : Below w.heap.size w w') : TB w' t g n cap kind xs :=
  h.chg (Chg.ofBelow hb (fun _ => False)) (fun f => f) (fun f => f)
theorem TB.drewN (h : TB w t g n cap kind xs) (m : Nat) : TB (w.drewN m) t g n cap kind xs := h.below (below_drewN' (Below.refl _ w) m)
theorem TB.drew (h : TB w t g n cap kind xs) : TB w.drew t g n cap kind xs := h.drewN 1
theorem TB.set (h : TB w t g n cap kind xs) {i : Nat} {x : Sl} (hx : xs[i]? = some x) (j : Nat) (v : Value) (x' : Sl) (hj : j < 3)
    (hv : [Value.int .i64 x'.f0, .bool x'.f1, .int .i64 x'.f2] = [Value.int .i64 x.f0, .bool x.f1, .int .i64 x.f2].set j v) :
    TB (w.setCell ⟨g, i * 3 + j, none⟩ v) t g n cap kind (xs.set i x') := by
  have hi : i < xs.length := (List.getElem?_eq_some_iff.1 hx).1
  have hl := h.len
  have r := Kd.R_seg (okp := fun _ => False) h.row (i : Int) (by omega) (by omega) (c := [Value.int .i64 x.f0, .bool x.f1, .int .i64 x.f2]) (seg := [v]) (j := j) rfl
    (fun j' u hu => (h.elem hx).1 j' u hu) (by show j + 1 ≤ 3; omega) (x' := x') (by
      have e : ([Value.int .i64 x.f0, .bool x.f1, .int .i64 x.f2].take j ++ [v] ++ [Value.int .i64 x.f0, .bool x.f1, .int .i64 x.f2].drop (j + [v].length)) = [Value.int .i64 x.f0, .bool x.f1, .int .i64 x.f2].set j v := by
        match j, hj with
        | 0, _ => rfl
        | 1, _ => rfl
        | 2, _ => rfl
      rw [e, ← hv]
      exact k90_mkM _ _ _ _) (fun k f => f.elim)
  have e : w.setCells g ((i : Int).toNat * kSl.sz + j) [v] = w.setCell ⟨g, i * 3 + j, none⟩ v := rfl
  rw [e] at r
  refine ⟨?_, by simpa using r.1, h.ne⟩
  rw [Below.heap_setCell _ _ _ _ (by show t ≠ g; exact fun e => h.ne e.symm)]
  exact h.blk
end

theorem TB.set3 {w : World} {t g n cap : Nat} {kind : Int} {xs : List Sl} (h : TB w t g n cap kind xs) {i : Nat} {x : Sl} (hx : xs[i]? = some x) (x' : Sl) :
    TB (((w.setCell ⟨g, i * 3, none⟩ (.int .i64 x'.f0)).setCell ⟨g, i * 3 + 1, none⟩ (.bool x'.f1)).setCell ⟨g, i * 3 + 2, none⟩ (.int .i64 x'.f2)) t g n cap kind (xs.set i x') := by
  have hi : i < xs.length := (List.getElem?_eq_some_iff.1 hx).1
  have h1 := h.set hx 0 (.int .i64 x'.f0) ⟨x'.f0, x.f1, x.f2⟩ (by omega) rfl
  have h2 := h1.set (i := i) (x := ⟨x'.f0, x.f1, x.f2⟩) (by simp [hi]) 1 (.bool x'.f1) ⟨x'.f0, x'.f1, x.f2⟩ (by omega) rfl
  have h3 := h2.set (i := i) (x := ⟨x'.f0, x'.f1, x.f2⟩) (by simp [hi]) 2 (.int .i64 x'.f2) x' (by omega) rfl
  simpa using h3

theorem Tk.set {kind : Int} {n : Nat} {xs : List Sl} (h : Tk kind n xs) (i : Nat) (x : Sl) (h0 : 1 ≤ x.f0) (h1 : x.f0 ≤ 1024) (h2 : x.f1 = true → x.f0 ≤ 1023) : Tk kind n (xs.set i x) := by
  refine ⟨h.k0, h.k3, h.n0, h.n1, by simpa using h.len, ?_, ?_⟩
  · intro j y hy
    rw [List.getElem?_set] at hy
    split at hy
    · split at hy
      · simp at hy; subst hy; exact ⟨h0, h1⟩
      · simp at hy
    · exact h.gen j y hy
  · intro j y hy hf
    rw [List.getElem?_set] at hy
    split at hy
    · split at hy
      · simp at hy; subst hy; exact h2 hf
      · simp at hy
    · exact h.top j y hy hf

theorem name_q (t g n cap i : Nat) (kind : Int) (xs : List Sl) (x : Sl) (w : World) (h : TB w t g n cap kind xs) (hT : Tk kind n xs) (hx : xs[i]? = some x) (hle : x.f0 ≤ 1023) :
    Calls Tryd.prog 44 #[.pointer (some ⟨t, 0, none⟩), .int .i64 (i : Int)] w fun e w' => e = .returned (.int .i64 (mk kind i x.f0)) ∧ ∃ m, w' = w.drewN m := by
  have c0 := h.c0
  have c1 := h.c1
  have e0 := h.e0 hx
  have hi : i < n := by have := (List.getElem?_eq_some_iff.1 hx).1; have := h.len; omega
  have hn := hT.n1
  have M := fun w => make_q kind (i : Int) x.f0 w hT.k0 hT.k3 (by omega) (by omega) (hT.gen i x hx).1 hle
  have HM := Lib.hid M
  clear M h hT hx hle
  go_enter Tryd.func44, Tryd.ntmps44
  go_wp2_with (go_quiet ((go_at_call 78; exact Calls.quiet_of (HM.out _))))
  go_ret
  exact ⟨rfl, _, rfl⟩

end Go.Proofs.YtgjlkplieoajlaaDoor
