/- Tables side by side, and what a clone and a loaded table are, by contract -/
import Derived.Test.YtgjlkplieoajlaaDoorSn1
import Derived.Test.YtgjlkplieoajlaaDoorSmB
import Derived.Test.YtgjlkplieoajlaaDoorSt3
set_option linter.unusedVariables false
set_option linter.unusedSimpArgs false
namespace Go.Proofs.YtgjlkplieoajlaaDoor
open Go.RowKit
open Go.Proofs.YtgjlkplieoajlaaDoor.PSlotsTwins

/-- The things of what is taken. -/
def thF : List Sl → List Int
  | [] => []
  | x :: r => if x.f1 = true then x.f2 :: thF r else thF r
theorem thF_append : ∀ (xs ys : List Sl), thF (xs ++ ys) = thF xs ++ thF ys
  | [], ys => rfl
  | x :: xs, ys => by
    simp only [List.cons_append, thF, thF_append xs ys]
    split <;> rfl
theorem thF_len (kind : Int) : ∀ (xs : List Sl) (i : Nat), (allF kind i xs).length = (thF xs).length
  | [], i => rfl
  | x :: xs, i => by
    simp only [allF, thF]
    split <;> simp [thF_len kind xs]
theorem allF_at (kind : Int) : ∀ (xs : List Sl) (i j : Nat) (h : Int), (allF kind i xs)[j]? = some h → ∃ k x, xs[k]? = some x ∧ x.f1 = true ∧ mk kind (i + k : Nat) x.f0 = h ∧ (thF xs)[j]? = some x.f2
  | [], i, j, h, e => by simp [allF] at e
  | x :: xs, i, j, h, e => by
    simp only [allF] at e
    by_cases t : x.f1 = true
    · rw [if_pos t] at e
      cases j with
      | zero =>
        simp at e
        exact ⟨0, x, rfl, t, by simpa using e, by simp [thF, t]⟩
      | succ j =>
        simp at e
        obtain ⟨k, y, h1, h2, h3, h4⟩ := allF_at kind xs (i + 1) j h e
        refine ⟨k + 1, y, by simpa using h1, h2, ?_, by simp [thF, t, h4]⟩
        rw [← h3, show i + (k + 1) = i + 1 + k by omega]
    · rw [if_neg t] at e
      obtain ⟨k, y, h1, h2, h3, h4⟩ := allF_at kind xs (i + 1) j h e
      refine ⟨k + 1, y, by simpa using h1, h2, ?_, by simp [thF, t, h4]⟩
      rw [← h3, show i + (k + 1) = i + 1 + k by omega]
theorem all_at {kind : Int} {xs : List Sl} {j : Nat} {h : Int} (e : (allH kind xs)[j]? = some h) : ∃ k x, At kind h xs k x ∧ (thF xs)[j]? = some x.f2 := by
  obtain ⟨k, x, h1, h2, h3, h4⟩ := allF_at kind xs 0 j h e
  exact ⟨k, x, ⟨h1, h2, by simpa using h3⟩, h4⟩
theorem cnt_th : ∀ (xs : List Sl) (k : Nat), cntT (xs.map (·.f1)) k = (thF (xs.take k)).length
  | [], k => by simp [cntT, thF]
  | x :: xs, 0 => by simp [cntT, thF]
  | x :: xs, k + 1 => by
    have ih := cnt_th xs k
    unfold cntT at ih ⊢
    simp only [List.map_cons, List.take_succ_cons, List.countP_cons, thF, id]
    rw [ih]
    split <;> simp
theorem split_at {xs : List Sl} {i : Nat} {x : Sl} (h : xs[i]? = some x) : xs = xs.take i ++ x :: xs.drop (i + 1) := by
  obtain ⟨hi, e⟩ := List.getElem?_eq_some_iff.1 h
  have h2 := List.drop_eq_getElem_cons hi
  rw [e] at h2
  rw [← h2, List.take_append_drop]
theorem th_at {xs : List Sl} {i : Nat} {x : Sl} (h : xs[i]? = some x) (t : x.f1 = true) : (thF xs)[cntT (xs.map (·.f1)) i]? = some x.f2 := by
  rw [cnt_th]
  have e := split_at h
  conv => lhs; arg 1; rw [e]
  rw [thF_append, List.getElem?_append_right (Nat.le_refl _), Nat.sub_self]
  simp [thF, t]
theorem laid_same {kind : Int} {n : Nat} {xs : List Sl} (hT : Tk kind n xs) {i : Nat} {x : Sl} (h : xs[i]? = some x) : laidSl (xs.map (·.f0)) (xs.map (·.f1)) (thF xs) i = x := by
  have e0 : (xs.map (·.f0)).getD i 0 = x.f0 := by simp [List.getD, h]
  have e1 : (xs.map (·.f1)).getD i false = x.f1 := by simp [List.getD, h]
  unfold laidSl
  rw [e0, e1]
  by_cases t : x.f1 = true
  · have e2 : (thF xs).getD (cntT (xs.map (·.f1)) i) 0 = x.f2 := by rw [List.getD, th_at h t]; rfl
    rw [if_pos t, e2]
  · have z := hT.zf i x h (by simpa using t)
    rw [if_neg t]
    obtain ⟨a, b, c⟩ := x
    simp only at z
    subst z
    rfl
theorem ok_same {kind : Int} {n : Nat} {xs : List Sl} (hT : Tk kind n xs) : ∀ i, i < n → okSl (xs.map (·.f0)) (xs.map (·.f1)) (thF xs) i := by
  intro i hi
  have hix : i < xs.length := by have := hT.len; omega
  have h : xs[i]? = some xs[i] := List.getElem?_eq_getElem hix
  have e0 : (xs.map (·.f0)).getD i 0 = xs[i].f0 := by simp [List.getD, h]
  have e1 : (xs.map (·.f1)).getD i false = xs[i].f1 := by simp [List.getD, h]
  have hg := hT.gen i _ h
  unfold okSl
  rw [e0, e1]
  refine ⟨hg.1, ?_, ?_⟩
  · split
    · rename_i t; exact hT.top i _ h t
    · exact hg.2
  · intro t
    exact (List.getElem?_eq_some_iff.1 (th_at h t)).1
theorem cnt_same {n : Nat} {xs : List Sl} (hl : xs.length = n) : cntT (xs.map (·.f1)) n = (thF xs).length := by
  rw [cnt_th, ← hl, List.take_length]
theorem load_same {kind : Int} {n : Nat} {xs : List Sl} (hT : Tk kind n xs) : loadSl (xs.map (·.f0)) (xs.map (·.f1)) (thF xs) n n = xs := by
  apply List.ext_getElem?
  intro i
  by_cases hi : i < n
  · have hix : i < xs.length := by have := hT.len; omega
    have h : xs[i]? = some xs[i] := List.getElem?_eq_getElem hix
    rw [loadSl_at hi, if_pos hi, laid_same hT h, h]
  · rw [List.getElem?_eq_none (by rw [loadSl_len]; omega), List.getElem?_eq_none (by have := hT.len; omega)]
theorem all_len {kind : Int} {n : Nat} {xs : List Sl} (hT : Tk kind n xs) : (allH kind xs).length = (thF xs).length := thF_len kind xs 0

end Go.Proofs.YtgjlkplieoajlaaDoor

set_option linter.unusedVariables false
set_option linter.unusedSimpArgs false
namespace Go.Proofs.YtgjlkplieoajlaaDoor
open Go.RowKit
open Go.Proofs.YtgjlkplieoajlaaDoorW.PrintWords (Kd Drawn0 Kept rd rdOf)
open Go.Proofs.YtgjlkplieoajlaaDoor.PSlotsTwins
set_option maxRecDepth 100000

theorem leq_nil (g n cap : Nat) (w : World) : Sem.run Tryd.prog (binOp BinOp.eql 86 (Value.slice (some ⟨g, 0, none⟩) n cap) (Value.slice none 0 0)) w = .ok (.bool false) w := by kernel_rfl

theorem own_empty (w : World) : kSl.R 90 (w.alloc (.cells #[] 90)) w.heap.size (fun _ => True) (.slice (some ⟨w.heap.size, 0, none⟩) 0 0) [] :=
  ⟨fun _ _ => trivial, [], ⟨rfl, .inr ⟨w.heap.size, 0, #[], rfl, Nat.le_refl _, heap_alloc_new w _, Nat.le_refl _, Nat.zero_le _, by simp, by simp⟩⟩, ⟨by simp, fun j p h => by simp at h⟩⟩
theorem kSl_KM {w W : World} {base : Nat} {ok : Nat → Prop} {x : Sl} {cs : List Value} (h : kSl.K w x cs) : kSl.M W base ok x cs := by
  obtain rfl := k90_open h
  exact k90_mkM W base ok x

set_option maxHeartbeats 1000000 in
theorem lclone_ok (g n cap : Nat) (xs : List Sl) (w : World) (R : kSl.R 90 w 0 (fun k => k = g) (.slice (some ⟨g, 0, none⟩) n cap) xs) (hn : n ≤ 4096) :
    Calls Tryd.prog 50 #[.slice (some ⟨g, 0, none⟩) n cap] w fun e w' => ∃ v, e = .returned v ∧ kSl.R 90 w' w.heap.size (fun _ => True) v xs ∧ Below w.heap.size w w' := by
  have hl : xs.length = n := (Kd.R_reads' R).1.symm
  have HC := Lib.hid (Kd.C_alloc (by have := (Kd.R_reads' R).2.2; rw [hl] at this; exact this : kSl.C w (some ⟨g, 0, none⟩) n xs) (.cells #[] 90))
  have HE := Lib.hid (own_empty w)
  have HB := Lib.hid ((Below.refl w.heap.size w).alloc (Nat.le_refl _) (.cells #[] 90))
  have E1 := leq_nil g n cap w
  clear R
  go_enter Tryd.func50, Tryd.ntmps50
  go_wp2_with (first
    | (at_builtin; refine Kd.R_append_rows kSl (w0 := w) w.heap.size rfl (.tmp 5) (.tmp 6) 86 90 (.agg #[.int .i64 0, .bool false, .int .i64 0]) 24 rfl Tryd.underlying86 infoSl rfl (by decide) (by omega) _ [] xs (some ⟨g, 0, none⟩) n cap (fun _ => True) (fun _ => False) rfl rfl HE.out HC.out (fun _ _ h => kSl_KM h) (fun _ hk => hk.elim) (fun _ _ => trivial) HB.out HB.out.size (by simp; omega) ?_; intro v1 w1 hR1 hB1 hg1 hat1)
    | fail)
  rw [List.nil_append] at hR1
  have HR1 := Lib.hid hR1
  have HB1 := Lib.hid hB1
  clear hR1 hB1 hg1 hat1 HC HE HB E1
  go_wp2
  go_ret
  exact ⟨v1, rfl, HR1.out, HB1.out⟩

theorem tclone_ok (t g n cap : Nat) (kind : Int) (xs : List Sl) (w : World) (H : TB w t g n cap kind xs) (hT : Tk kind n xs) :
    Calls Tryd.prog 22 #[.pointer (some ⟨t, 0, none⟩)] w fun e w' => ∃ t2 g2 cap2, e = .returned (.pointer (some ⟨t2, 0, none⟩)) ∧ TB w' t2 g2 n cap2 kind xs ∧ w.heap.size ≤ t2 ∧ w.heap.size ≤ g2 ∧ Below w.heap.size w w' := by
  have c0 := H.c0
  have c1 := H.c1
  have hl := H.len
  have n0 := hT.n0
  have HT := Lib.hid hT
  have HC := Lib.hid (fun W (hb : Below w.heap.size w W) => lclone_ok g n cap xs W (H.below hb).row hT.n1)
  have HB := Lib.hid (Below.refl w.heap.size w)
  clear H hT
  go_enter Tryd.func22, Tryd.ntmps22
  go_wp2_with fail
  go_region_with (first
    | (go_at_call 50; refine (HC.out _ (by first | exact Below.refl _ _ | exact Below.drew (Below.refl _ _))).mono ?_; rintro e w1 ⟨v, rfl, hR, hb⟩; (try dsimp only); have HR1 := Lib.hid (show kSl.R 90 w1 w.heap.size (fun _ => True) v xs from hR); have HB1 := Lib.hid (show Below w.heap.size w w1 from ⟨hb.os, hb.tape, hb.output, hb.size, hb.block⟩); obtain ⟨g2, cap2, e2, hg2⟩ := Kd.R_form HR1.out (by omega); rw [hl] at e2; subst e2; have c0 := keep HB1.out c0; clear hR hb)
    | fail)
  all_goals
    have b2 := (Below.refl w1.heap.size w1).alloc (Nat.le_refl _) (.cells #[.int .i64 kind, .slice (some ⟨g2, 0, none⟩) n cap2] 88)
    have HR2 := Lib.hid (Kd.R_below HR1.out b2)
    have HB2 := Lib.hid (below_call HB1.out (Nat.le_refl _) b2)
    have hsz := HB1.out.size
    have h2 := hg2.2.1
    go_wp2
    go_ret
    obtain ⟨g3, cap3, e3, hg3, hT3⟩ := TB.ofR (t := w1.heap.size) (kind := kind) (heap_alloc_new w1 _) HR2.out (by omega : 0 < n) hl (.inr (fun k hk => by simp [Value.ownBlock] at hk; omega))
    simp only [Value.slice.injEq, Option.some.injEq, Addr.mk.injEq] at e3
    obtain ⟨⟨rfl, -⟩, -, rfl⟩ := e3
    exact ⟨w1.heap.size, g2, cap2, rfl, hT3, hsz, hg2.1, HB2.out⟩
end Go.Proofs.YtgjlkplieoajlaaDoor

set_option linter.unusedVariables false
set_option linter.unusedSimpArgs false
namespace Go.Proofs.YtgjlkplieoajlaaDoor
open Go.RowKit
open Go.Proofs.YtgjlkplieoajlaaDoorW.PrintWords (Kd Drawn0 Kept rd rdOf)
open Go.Proofs.YtgjlkplieoajlaaDoor.PSlotsTwins
set_option maxRecDepth 100000

/-- The three rows of a reference's table, as letters. -/
structure Rw where
  A1 : Option Addr
  c1 : Nat
  A2 : Option Addr
  c2 : Nat
  A3 : Option Addr
  c3 : Nat
def VTw (W : World) (b n : Nat) (R : Rw) : Prop := VarT W b n 2 R.A1 R.c1 R.A2 R.c2 R.A3 R.c3
/-- A table and a reference's table: both have the same slots. -/
def Pq (W : World) (B n t g cap : Nat) (R : Rw) : Prop := ∃ xs, TB W t g n cap 2 xs ∧ Tk 2 n xs ∧ RT W B n R.A1 R.c1 R.A2 R.c2 R.A3 R.c3 xs
/-- A block of slots, or a variable of the reference's. -/
def Oth (W : World) (k : Nat) : Prop := (∃ cs, W.heap[k]? = some (.cells cs 90 (0, 0))) ∨ ∃ cs, W.heap[k]? = some (.cells cs 30 (0, 0))
section
variable {W W' : World} {B n t g cap b : Nat} {R : Rw} {S : Nat → Prop}
theorem VTw.lt (h : VTw W b n R) : b < W.heap.size := VarT.lt h
theorem VTw.oth (h : VTw W b n R) : Oth W b := .inr ⟨_, h⟩
theorem VTw.chg (h : VTw W b n R) (hc : Chg S W W') (hn : ¬ S b) : VTw W' b n R := VarT.chg h hc hn
theorem VTw.below (h : VTw W b n R) (hb : Below W.heap.size W W') : VTw W' b n R := VarT.below h hb
theorem RT.oth {A1 : Option Addr} {c1 : Nat} {A2 : Option Addr} {c2 : Nat} {A3 : Option Addr} {c3 : Nat} {xs : List Sl} (R : RT W B n A1 c1 A2 c2 A3 c3 xs) {k : Nat} (h : Oth W k) : ¬ Own3 n A1 c1 A2 c2 A3 c3 k := by
  rcases h with ⟨cs, hc⟩ | ⟨cs, hc⟩
  · rintro (e | e | e)
    · exact Kd.R_ne R.r1 hc (by decide) e.symm
    · exact Kd.R_ne R.r2 hc (by decide) e.symm
    · exact Kd.R_ne R.r3 hc (by decide) e.symm
  · exact R.ne_blk hc
theorem Pq.othg (h : Pq W B n t g cap R) : Oth W g := by
  obtain ⟨xs, hT, hk, hR⟩ := h
  exact .inl (Kd.R_typed hT.row g rfl)
theorem Pq.lt (h : Pq W B n t g cap R) : t < W.heap.size := by
  obtain ⟨xs, hT, hk, hR⟩ := h
  exact hT.lt
theorem Pq.ltg (h : Pq W B n t g cap R) : g < W.heap.size := by
  obtain ⟨xs, hT, hk, hR⟩ := h
  exact hT.ltg
theorem Pq.chg (h : Pq W B n t g cap R) (hc : Chg S W W') (h1 : ¬ S t) (h2 : ¬ S g) (hr : ∀ k, S k → Oth W k) : Pq W' B n t g cap R := by
  obtain ⟨xs, hT, hk, hR⟩ := h
  exact ⟨xs, hT.chg hc h1 h2, hk, hR.chg hc (fun k hS => hR.oth (hr k hS))⟩
theorem Pq.below (h : Pq W B n t g cap R) (hb : Below W.heap.size W W') : Pq W' B n t g cap R :=
  h.chg (Chg.ofBelow hb (fun _ => False)) (fun f => f) (fun f => f) (fun _ f => f.elim)
theorem stepw (h : Pq W B n t g cap R) (kd hh v : Int) (hE : 0 < g) (hL : Laid W) :
    Calls Tryd.prog 19 #[.pointer (some ⟨t, 0, none⟩), .agg #[.int .i64 2, .slice R.A1 n R.c1, .slice R.A2 n R.c2, .slice R.A3 n R.c3], .agg #[.int .i64 kd, .int .i64 hh, .int .i64 v]] W fun e w' =>
      ∃ Q : Rw, e = .returned (.tuple #[.agg #[.int .i64 2, .slice Q.A1 n Q.c1, .slice Q.A2 n Q.c2, .slice Q.A3 n Q.c3], .bool true]) ∧ Pq w' B n t g cap Q ∧ Chg (fun k => k = g) W w' := by
  obtain ⟨xs, hT, hk, hR⟩ := h
  refine (step2_any t g n cap B 2 kd hh v _ _ _ _ _ _ xs W hT hk hR hE hL).mono ?_
  rintro e w' ⟨ys, B1, d1, B2, d2, B3, d3, rfl, h1, h2, h3, h4⟩
  exact ⟨⟨B1, d1, B2, d2, B3, d3⟩, rfl, ⟨ys, h1, h2, h3⟩, h4⟩
theorem samew (h : Pq W B n t g cap R) :
    Calls Tryd.prog 12 #[.pointer (some ⟨t, 0, none⟩), .agg #[.int .i64 2, .slice R.A1 n R.c1, .slice R.A2 n R.c2, .slice R.A3 n R.c3]] W fun e w' => e = .returned (.bool true) ∧ Below W.heap.size W w' := by
  obtain ⟨xs, hT, hk, hR⟩ := h
  exact same_ok t g n cap B 2 _ _ _ _ _ _ xs W hT hk hR
end

/-- Where all lies. -/
def Ds (z t1 g1 t2 g2 t3 g3 b1 b2 b3 : Nat) : Prop :=
  0 < z ∧ z ≤ t1 ∧ z ≤ g1 ∧ t1 < b1 ∧ g1 < b1 ∧ b1 < t2 ∧ b1 < g2 ∧ t2 < t3 ∧ t2 < g3 ∧ g2 < t3 ∧ g2 < g3 ∧ t3 < b2 ∧ g3 < b2 ∧ t3 < b3 ∧ g3 < b3 ∧ b2 ≠ b3
/-- Three tables with their references. -/
structure M3 (w W : World) (B n t1 g1 c1 t2 g2 c2 t3 g3 c3 b1 b2 b3 : Nat) (R1 Q2 V2 Q3 V3 : Rw) : Prop where
  q1 : Pq W B n t1 g1 c1 R1
  v1 : VTw W b1 n R1
  q2 : Pq W B n t2 g2 c2 Q2
  v2 : VTw W b2 n V2
  q3 : Pq W B n t3 g3 c3 Q3
  v3 : VTw W b3 n V3
  la : Laid W
  be : Below w.heap.size w W
section
variable {w W W' : World} {B n t1 g1 c1 t2 g2 c2 t3 g3 c3 b1 b2 b3 : Nat} {R1 Q2 V2 Q3 V3 : Rw} {S : Nat → Prop}
theorem M3.chg (h : M3 w W B n t1 g1 c1 t2 g2 c2 t3 g3 c3 b1 b2 b3 R1 Q2 V2 Q3 V3) (hc : Chg S W W') (hr : ∀ k, S k → Oth W k)
    (hs : ∀ k, S k → k ≠ t1 ∧ k ≠ g1 ∧ k ≠ t2 ∧ k ≠ g2 ∧ k ≠ t3 ∧ k ≠ g3 ∧ k ≠ b1 ∧ k ≠ b2 ∧ k ≠ b3 ∧ k ≠ 0 ∧ w.heap.size ≤ k) : M3 w W' B n t1 g1 c1 t2 g2 c2 t3 g3 c3 b1 b2 b3 R1 Q2 V2 Q3 V3 :=
  ⟨h.q1.chg hc (fun s => (hs _ s).1 rfl) (fun s => (hs _ s).2.1 rfl) hr, h.v1.chg hc (fun s => (hs _ s).2.2.2.2.2.2.1 rfl), h.q2.chg hc (fun s => (hs _ s).2.2.1 rfl) (fun s => (hs _ s).2.2.2.1 rfl) hr,
    h.v2.chg hc (fun s => (hs _ s).2.2.2.2.2.2.2.1 rfl), h.q3.chg hc (fun s => (hs _ s).2.2.2.2.1 rfl) (fun s => (hs _ s).2.2.2.2.2.1 rfl) hr, h.v3.chg hc (fun s => (hs _ s).2.2.2.2.2.2.2.2.1 rfl),
    h.la.chg hc (fun s => (hs _ s).2.2.2.2.2.2.2.2.2.1 rfl), h.be.trans (hc.below h.be.size (fun k s => (hs k s).2.2.2.2.2.2.2.2.2.2))⟩
theorem M3.below (h : M3 w W B n t1 g1 c1 t2 g2 c2 t3 g3 c3 b1 b2 b3 R1 Q2 V2 Q3 V3) (hb : Below W.heap.size W W') : M3 w W' B n t1 g1 c1 t2 g2 c2 t3 g3 c3 b1 b2 b3 R1 Q2 V2 Q3 V3 :=
  h.chg (Chg.ofBelow hb (fun _ => False)) (fun _ f => f.elim) (fun _ f => f.elim)
theorem M3.step2 {Q : Rw} (h : M3 w W B n t1 g1 c1 t2 g2 c2 t3 g3 c3 b1 b2 b3 R1 Q2 V2 Q3 V3) (hD : Ds w.heap.size t1 g1 t2 g2 t3 g3 b1 b2 b3) (hc : Chg (fun k => k = g2) W W') (hq : Pq W' B n t2 g2 c2 Q) : M3 w W' B n t1 g1 c1 t2 g2 c2 t3 g3 c3 b1 b2 b3 R1 Q V2 Q3 V3 := by
  obtain ⟨d1, d2, d3, d4, d5, d6, d7, d8, d9, d10, d11, d12, d13, d14, d15, d16⟩ := hD
  have hr : ∀ k, k = g2 → Oth W k := fun k e => by rw [e]; exact h.q2.othg
  exact ⟨h.q1.chg hc (by show ¬ t1 = g2; omega) (by show ¬ g1 = g2; omega) hr, h.v1.chg hc (by show ¬ b1 = g2; omega), hq, h.v2.chg hc (by show ¬ b2 = g2; omega), h.q3.chg hc (by show ¬ t3 = g2; omega) (by show ¬ g3 = g2; omega) hr, h.v3.chg hc (by show ¬ b3 = g2; omega), h.la.chg hc (by show ¬ 0 = g2; omega), h.be.trans (hc.below h.be.size (fun k e => by omega))⟩
theorem M3.step3 {Q : Rw} (h : M3 w W B n t1 g1 c1 t2 g2 c2 t3 g3 c3 b1 b2 b3 R1 Q2 V2 Q3 V3) (hD : Ds w.heap.size t1 g1 t2 g2 t3 g3 b1 b2 b3) (hc : Chg (fun k => k = g3) W W') (hq : Pq W' B n t3 g3 c3 Q) : M3 w W' B n t1 g1 c1 t2 g2 c2 t3 g3 c3 b1 b2 b3 R1 Q2 V2 Q V3 := by
  obtain ⟨d1, d2, d3, d4, d5, d6, d7, d8, d9, d10, d11, d12, d13, d14, d15, d16⟩ := hD
  have hr : ∀ k, k = g3 → Oth W k := fun k e => by rw [e]; exact h.q3.othg
  exact ⟨h.q1.chg hc (by show ¬ t1 = g3; omega) (by show ¬ g1 = g3; omega) hr, h.v1.chg hc (by show ¬ b1 = g3; omega), h.q2.chg hc (by show ¬ t2 = g3; omega) (by show ¬ g2 = g3; omega) hr, h.v2.chg hc (by show ¬ b2 = g3; omega), hq, h.v3.chg hc (by show ¬ b3 = g3; omega), h.la.chg hc (by show ¬ 0 = g3; omega), h.be.trans (hc.below h.be.size (fun k e => by omega))⟩
/-- The four cells of a table, stored. -/
abbrev put4 (W : World) (b n : Nat) (R : Rw) : World := (((W.setCell ⟨b, 0, none⟩ (.int .i64 2)).setCell ⟨b, 1, none⟩ (.slice R.A1 n R.c1)).setCell ⟨b, 2, none⟩ (.slice R.A2 n R.c2)).setCell ⟨b, 3, none⟩ (.slice R.A3 n R.c3)
theorem put4_chg (W : World) (b n : Nat) (R : Rw) : Chg (fun k => k = b) W (put4 W b n R) := chg_set4 W b _ _ _ _
theorem put4_new {b : Nat} {cs : Array Value} (h : W.heap[b]? = some (.cells cs 30 (0, 0))) (hl : cs.size = 4) (R : Rw) : VTw (put4 W b n R) b n R := by
  obtain ⟨v0, v1, v2, v3, rfl⟩ : ∃ v0 v1 v2 v3, cs = #[v0, v1, v2, v3] := by
    rcases cs with ⟨l⟩
    match l, hl with
    | [a, b, c, d], _ => exact ⟨a, b, c, d, rfl⟩
  have h1 := heap_setCell_same W b 0 _ _ (.int .i64 2) h
  have h2 := heap_setCell_same _ b 1 _ _ (.slice R.A1 n R.c1) h1
  have h3 := heap_setCell_same _ b 2 _ _ (.slice R.A2 n R.c2) h2
  exact heap_setCell_same _ b 3 _ _ (.slice R.A3 n R.c3) h3
/-- Another variable is stored. -/
theorem M3.put (h : M3 w W B n t1 g1 c1 t2 g2 c2 t3 g3 c3 b1 b2 b3 R1 Q2 V2 Q3 V3) (hD : Ds w.heap.size t1 g1 t2 g2 t3 g3 b1 b2 b3) {p : Nat} (ho : Oth W p) (h2 : b2 < p) (h3 : b3 < p) (R : Rw) : M3 w (put4 W p n R) B n t1 g1 c1 t2 g2 c2 t3 g3 c3 b1 b2 b3 R1 Q2 V2 Q3 V3 := by
  obtain ⟨d1, d2, d3, d4, d5, d6, d7, d8, d9, d10, d11, d12, d13, d14, d15, d16⟩ := hD
  exact h.chg (put4_chg W p n R) (fun k e => by have e' : k = p := e; rw [e']; exact ho) (fun k e => by have e' : k = p := e; subst e'; refine ⟨?_, ?_, ?_, ?_, ?_, ?_, ?_, ?_, ?_, ?_, ?_⟩ <;> omega)
theorem M3.put2 (h : M3 w W B n t1 g1 c1 t2 g2 c2 t3 g3 c3 b1 b2 b3 R1 Q2 V2 Q3 V3) (hD : Ds w.heap.size t1 g1 t2 g2 t3 g3 b1 b2 b3) (R : Rw) : M3 w (put4 W b2 n R) B n t1 g1 c1 t2 g2 c2 t3 g3 c3 b1 b2 b3 R1 Q2 R Q3 V3 := by
  obtain ⟨d1, d2, d3, d4, d5, d6, d7, d8, d9, d10, d11, d12, d13, d14, d15, d16⟩ := hD
  have hc := put4_chg W b2 n R
  have hr : ∀ k, k = b2 → Oth W k := fun k e => by rw [e]; exact h.v2.oth
  exact ⟨h.q1.chg hc (by show ¬ t1 = b2; omega) (by show ¬ g1 = b2; omega) hr, h.v1.chg hc (by show ¬ b1 = b2; omega), h.q2.chg hc (by show ¬ t2 = b2; omega) (by show ¬ g2 = b2; omega) hr, put4_new h.v2 rfl R, h.q3.chg hc (by show ¬ t3 = b2; omega) (by show ¬ g3 = b2; omega) hr, h.v3.chg hc (by show ¬ b3 = b2; omega), h.la.chg hc (by show ¬ 0 = b2; omega), h.be.trans (hc.below h.be.size (fun k e => by omega))⟩
theorem M3.put3 (h : M3 w W B n t1 g1 c1 t2 g2 c2 t3 g3 c3 b1 b2 b3 R1 Q2 V2 Q3 V3) (hD : Ds w.heap.size t1 g1 t2 g2 t3 g3 b1 b2 b3) (R : Rw) : M3 w (put4 W b3 n R) B n t1 g1 c1 t2 g2 c2 t3 g3 c3 b1 b2 b3 R1 Q2 V2 Q3 R := by
  obtain ⟨d1, d2, d3, d4, d5, d6, d7, d8, d9, d10, d11, d12, d13, d14, d15, d16⟩ := hD
  have hc := put4_chg W b3 n R
  have hr : ∀ k, k = b3 → Oth W k := fun k e => by rw [e]; exact h.v3.oth
  exact ⟨h.q1.chg hc (by show ¬ t1 = b3; omega) (by show ¬ g1 = b3; omega) hr, h.v1.chg hc (by show ¬ b1 = b3; omega), h.q2.chg hc (by show ¬ t2 = b3; omega) (by show ¬ g2 = b3; omega) hr, h.v2.chg hc (by show ¬ b2 = b3; omega), h.q3.chg hc (by show ¬ t3 = b3; omega) (by show ¬ g3 = b3; omega) hr, put4_new h.v3 rfl R, h.la.chg hc (by show ¬ 0 = b3; omega), h.be.trans (hc.below h.be.size (fun k e => by omega))⟩
end
end Go.Proofs.YtgjlkplieoajlaaDoor

set_option linter.unusedVariables false
set_option linter.unusedSimpArgs false
namespace Go.Proofs.YtgjlkplieoajlaaDoor
open Go.RowKit
open Go.Proofs.YtgjlkplieoajlaaDoorW.PrintWords (Kd Drawn0 Kept rd rdOf)
open Go.Proofs.YtgjlkplieoajlaaDoor.PSlotsTwins
set_option maxRecDepth 100000

theorem mergeF {P G : Nat → Nat → World → Prop} {Q : Prop} (main : Hid (∀ b2 b3 W, G b2 b3 W → P b2 b3 W) → Q) (side : ∀ b2 b3 W, G b2 b3 W → P b2 b3 W) : Q := main (Lib.hid side)

theorem mergeS {P G : Nat → World → Rw → Prop} {Q : Prop} (main : Hid (∀ p W R, G p W R → P p W R) → Q) (side : ∀ p W R, G p W R → P p W R) : Q := main (Lib.hid side)
/-- One table with its reference's variable. -/
structure M1 (w W : World) (B n t g c b : Nat) (Q V : Rw) : Prop where
  q : Pq W B n t g c Q
  v : VTw W b n V
  la : Laid W
  be : Below w.heap.size w W
section
variable {w W W' : World} {B n t g c b : Nat} {Q V : Rw}
theorem M1.step {Q' : Rw} (h : M1 w W B n t g c b Q V) (hc : Chg (fun k => k = g) W W') (hq : Pq W' B n t g c Q') (hb : b ≠ g) (he : 0 ≠ g) (hw : w.heap.size ≤ g) : M1 w W' B n t g c b Q' V :=
  ⟨hq, h.v.chg hc hb, h.la.chg hc he, h.be.trans (hc.below h.be.size (fun k e => by have e' : k = g := e; omega))⟩
theorem M1.put (h : M1 w W B n t g c b Q V) (R : Rw) (h1 : t ≠ b) (h2 : g ≠ b) (he : 0 ≠ b) (hw : w.heap.size ≤ b) : M1 w (put4 W b n R) B n t g c b Q R :=
  ⟨h.q.chg (put4_chg W b n R) h1 h2 (fun k e => by have e' : k = b := e; rw [e']; exact h.v.oth), put4_new h.v rfl R, h.la.chg (put4_chg W b n R) he, h.be.trans ((put4_chg W b n R).below h.be.size (fun k e => by have e' : k = b := e; omega))⟩
end
/-- Behind the first loop. -/
structure N2 (w W : World) (B n t g c b : Nat) (xs : List Sl) (R : Rw) : Prop where
  tb : TB W t g n c 2 xs
  tk : Tk 2 n xs
  rt : RT W B n R.A1 R.c1 R.A2 R.c2 R.A3 R.c3 xs
  v : VTw W b n R
  la : Laid W
  be : Below w.heap.size w W
theorem N2.below {w W W' : World} {B n t g c b : Nat} {xs : List Sl} {R : Rw} (h : N2 w W B n t g c b xs R) (hb : Below W.heap.size W W') : N2 w W' B n t g c b xs R :=
  ⟨h.tb.below hb, h.tk, h.rt.below hb, h.v.below hb, h.la.below hb, below_call h.be (Nat.le_refl _) hb⟩
theorem M3.start {w W W' : World} {B n t1 g1 c1 t2 g2 c2 t3 g3 c3 b1 b2 b3 : Nat} {xs : List Sl} {R : Rw} (HN : N2 w W B n t1 g1 c1 b1 xs R) (H2 : TB W t2 g2 n c2 2 xs) (H3 : TB W t3 g3 n c3 2 xs) (hb : Below W.heap.size W W') (v2 : VTw W' b2 n R) (v3 : VTw W' b3 n R) : M3 w W' B n t1 g1 c1 t2 g2 c2 t3 g3 c3 b1 b2 b3 R R R R R :=
  ⟨⟨xs, HN.tb.below hb, HN.tk, HN.rt.below hb⟩, HN.v.below hb, ⟨xs, H2.below hb, HN.tk, HN.rt.below hb⟩, v2, ⟨xs, H3.below hb, HN.tk, HN.rt.below hb⟩, v3, HN.la.below hb, below_call HN.be (Nat.le_refl _) hb⟩
def OpsAt (w : World) (al : Option Addr) (len : Nat) : Prop := len = 0 ∨ ∃ b o, al = some ⟨b, o, none⟩ ∧ ∀ i, i < len → ∃ x0 x1 x2 : Int, w.cell? ⟨b, o + i * 3, none⟩ = some (.int .i64 x0) ∧ w.cell? ⟨b, o + i * 3 + 1, none⟩ = some (.int .i64 x1) ∧ w.cell? ⟨b, o + i * 3 + 2, none⟩ = some (.int .i64 x2)


end Go.Proofs.YtgjlkplieoajlaaDoor
