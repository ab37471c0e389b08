/- Handles and tables of slots: find, Get, Set, Drop, Add, by contract. -/
import Derived.Test.YtgjlkplieoajlaaDoorPSlotsTwinsx
import Derived.Test.YtgjlkplieoajlaaDoorNum03
import Derived.Test.YtgjlkplieoajlaaDoorFq0
set_option linter.unusedVariables false
set_option linter.unusedSimpArgs false
namespace Go.Proofs.YtgjlkplieoajlaaDoor
open Go.RowKit
open Go.Proofs.YtgjlkplieoajlaaDoorW.PrintWords (Kd Drawn0 Kept rd rdOf)
open Go.Proofs.YtgjlkplieoajlaaDoor.PSlotsTwins

def hk (h : Int) : Int := h / 1099511627776
def hs (h : Int) : Int := h / 1048576 % 1048576
def hg (h : Int) : Int := h % 1048576
def hokB (h : Int) : Bool := decide (1 ≤ hk h ∧ hk h ≤ 3 ∧ hs h ≤ 65535 ∧ 1 ≤ hg h ∧ hg h ≤ 1023)
def mk (k s g : Int) : Int := k * 1099511627776 + s * 1048576 + g

theorem and_mask (h : Int) : Go.bits .and .i64 h 1048575 = h % 1048576 := by
  have e : (BitVec.ofInt 64 h &&& BitVec.ofInt 64 1048575).toNat = (h % 18446744073709551616).toNat % 1048576 := by
    rw [BitVec.toNat_and, BitVec.toNat_ofInt, show (BitVec.ofInt 64 1048575).toNat = 2 ^ 20 - 1 from rfl, Nat.and_two_pow_sub_one_eq_mod]
    simp
  have e2 : Go.bits .and .i64 h 1048575 = IntKind.i64.wrap (((BitVec.ofInt 64 h &&& BitVec.ofInt 64 1048575).toNat : Nat) : Int) := rfl
  rw [e2, e, IntKind.wrap_i64]
  omega

theorem i64_wraps (n : Int) (h₀ : 0 ≤ n) (h₁ : n < 2 ^ 63) : IntKind.i64.wrap n = n := by rw [IntKind.wrap_i64]; omega

theorem or_mk (k s g : Int) (hk0 : 1 ≤ k) (hk3 : k ≤ 3) (hs0 : 0 ≤ s) (hs1 : s < 1048576) (hg0 : 0 ≤ g) (hg1 : g < 1048576) :
    Go.bits .or .i64 (Go.bits .or .i64 (wrap64 (k * 1099511627776)) (wrap64 (s * 1048576))) g = mk k s g := by
  have e1 : wrap64 (k * 1099511627776) = k * 1099511627776 := by unfold wrap64; omega
  have e2 : wrap64 (s * 1048576) = s * 1048576 := by unfold wrap64; omega
  rw [e1, e2, bits_join .i64 63 (by decide) i64_wraps 40 (k * 1099511627776) (s * 1048576) (by omega) (by omega) (by omega) (by omega) (by omega) (by omega)]
  rw [bits_join .i64 63 (by decide) i64_wraps 20 (k * 1099511627776 + s * 1048576) g (by omega) (by omega) (by omega) (by omega) (by omega) (by omega)]
  rfl

theorem hk_mk (k s g : Int) (hs0 : 0 ≤ s) (hs1 : s < 1048576) (hg0 : 0 ≤ g) (hg1 : g < 1048576) : hk (mk k s g) = k ∧ hs (mk k s g) = s ∧ hg (mk k s g) = g := by
  unfold hk hs hg mk; omega
theorem mk_parts (h : Int) : mk (hk h) (hs h) (hg h) = h := by unfold hk hs hg mk; omega
theorem hs_range (h : Int) : 0 ≤ hs h ∧ hs h < 1048576 := by unfold hs; omega
theorem hg_range (h : Int) : 0 ≤ hg h ∧ hg h < 1048576 := by unfold hg; omega

theorem make_f (k s g : Int) (hk0 : 1 ≤ k) (hk3 : k ≤ 3) (hs0 : 0 ≤ s) (hs1 : s ≤ 65535) (hg0 : 1 ≤ g) (hg1 : g ≤ 1023) : handle_Make.f k s g = some (mk k s g, none) := by
  unfold handle_Make.f
  rw [if_neg (by omega), if_neg (by omega), if_neg (by omega), if_neg (by omega), if_neg (by omega), if_neg (by omega), or_mk k s g hk0 hk3 hs0 (by omega) (by omega) (by omega)]
theorem make_f_bad (k s g : Int) (h : ¬ (1 ≤ k ∧ k ≤ 3 ∧ 0 ≤ s ∧ s ≤ 65535 ∧ 1 ≤ g ∧ g ≤ 1023)) : handle_Make.f k s g = some (0, some 1) := by
  unfold handle_Make.f
  repeat' split
  all_goals first | rfl | (exfalso; omega)
theorem parts_f (h : Int) : handle_parts.f h = some (hk h, hs h, hg h) := by
  unfold handle_parts.f
  rw [and_mask, and_mask]; rfl
theorem valid_f (h : Int) : handle_Valid.f h = some (hokB h) := by
  unfold handle_Valid.f
  rw [parts_f]
  simp only [Option.bind_some]
  have r := hs_range h
  by_cases c : 1 ≤ hk h ∧ hk h ≤ 3 ∧ hs h ≤ 65535 ∧ 1 ≤ hg h ∧ hg h ≤ 1023
  · rw [make_f _ _ _ c.1 c.2.1 r.1 c.2.2.1 c.2.2.2.1 c.2.2.2.2]
    simp only [Option.bind_some, Option.isNone, if_true]
    unfold hokB; simp [c]
  · rw [make_f_bad _ _ _ (by omega)]
    simp only [Option.bind_some, Option.isNone]
    unfold hokB; simp [c]
theorem kind_f (h : Int) : handle_Kind.f h = some (if hokB h = true then hk h else 0) := by
  unfold handle_Kind.f
  rw [valid_f, parts_f]
  simp only [Option.bind_some]
  split <;> rfl
theorem slot_f (h : Int) : handle_Slot.f h = some (if hokB h = true then hs h else -1) := by
  unfold handle_Slot.f
  rw [valid_f, parts_f]
  simp only [Option.bind_some]
  split <;> rfl
theorem gen_f (h : Int) : handle_Gen.f h = some (if hokB h = true then hg h else 0) := by
  unfold handle_Gen.f
  rw [valid_f, parts_f]
  simp only [Option.bind_some]
  split <;> rfl

theorem make_q (k s g : Int) (w : World) (hk0 : 1 ≤ k) (hk3 : k ≤ 3) (hs0 : 0 ≤ s) (hs1 : s ≤ 65535) (hg0 : 1 ≤ g) (hg1 : g ≤ 1023) :
    Calls Tryd.prog 78 #[.int .i64 k, .int .i64 s, .int .i64 g] w fun e w' => e = .returned (.tuple #[.int .i64 (mk k s g), .nilIface]) ∧ ∃ m, w' = w.drewN m :=
  (handle_Make.calls k s g _ _ w (make_f k s g hk0 hk3 hs0 hs1 hg0 hg1)).mono fun _ _ h => ⟨h.1, h.2.out⟩
theorem kind_q (h v : Int) (w : World) (e : (if hokB h = true then hk h else 0) = v) :
    Calls Tryd.prog 75 #[.int .i64 h] w fun e w' => e = .returned (.int .i64 v) ∧ ∃ m, w' = w.drewN m :=
  (handle_Kind.calls h _ w (by rw [kind_f, e])).mono fun _ _ h => ⟨h.1, h.2.out⟩
theorem slot_q (h v : Int) (w : World) (e : (if hokB h = true then hs h else -1) = v) :
    Calls Tryd.prog 76 #[.int .i64 h] w fun e w' => e = .returned (.int .i64 v) ∧ ∃ m, w' = w.drewN m :=
  (handle_Slot.calls h _ w (by rw [slot_f, e])).mono fun _ _ h => ⟨h.1, h.2.out⟩
theorem gen_q (h v : Int) (w : World) (e : (if hokB h = true then hg h else 0) = v) :
    Calls Tryd.prog 77 #[.int .i64 h] w fun e w' => e = .returned (.int .i64 v) ∧ ∃ m, w' = w.drewN m :=
  (handle_Gen.calls h _ w (by rw [gen_f, e])).mono fun _ _ h => ⟨h.1, h.2.out⟩

end Go.Proofs.YtgjlkplieoajlaaDoor

set_option linter.unusedVariables false
set_option linter.unusedSimpArgs false
namespace Go.Proofs.YtgjlkplieoajlaaDoor
open Go.RowKit
open Go.Proofs.YtgjlkplieoajlaaDoorW.PrintWords (Kd Drawn0 Kept rd rdOf)
open Go.Proofs.YtgjlkplieoajlaaDoor.PSlotsTwins
set_option maxRecDepth 100000

theorem Chg.setCell {S : Nat → Prop} {a b : World} (h : Chg S a b) (p : Addr) (v : Value) (hp : S p.block) : Chg S a (b.setCell p v) :=
  h.trans ⟨rfl, rfl, rfl, by simp, fun k _ hn => heap_setCell_other b p k v (fun e => hn (by first | (rw [e]; exact hp) | (rw [← e]; exact hp)))⟩

abbrev Sl := S90
abbrev kSl := k90

/-- A table: its block t, its slots' block g. -/
structure TB (w : World) (t g n cap : Nat) (kind : Int) (xs : List Sl) : Prop where
  blk : w.heap[t]? = some (.cells #[.int .i64 kind, .slice (some ⟨g, 0, none⟩) n cap] 88 (0, 0))
  row : kSl.R 90 w 0 (fun k => k = g) (.slice (some ⟨g, 0, none⟩) n cap) xs
  ne : g ≠ t

/-- What a table may be: its kind, its slots. -/
structure Tk (kind : Int) (n : Nat) (xs : List Sl) : Prop where
  k0 : 1 ≤ kind
  k3 : kind ≤ 3
  n0 : 1 ≤ n
  n1 : n ≤ 4096
  len : xs.length = n
  gen : ∀ (i : Nat) (x : Sl), xs[i]? = some x → 1 ≤ x.f0 ∧ x.f0 ≤ 1024
  top : ∀ (i : Nat) (x : Sl), xs[i]? = some x → x.f1 = true → x.f0 ≤ 1023
  zf : ∀ (i : Nat) (x : Sl), xs[i]? = some x → x.f1 = false → x.f2 = 0

section
variable {w w' : World} {t g n cap : Nat} {kind : Int} {xs : List Sl}
theorem TB.c0 (h : TB w t g n cap kind xs) : w.cell? ⟨t, 0, none⟩ = some (.int .i64 kind) := by simp [World.cell?, h.blk]
theorem TB.c1 (h : TB w t g n cap kind xs) : w.cell? ⟨t, 1, none⟩ = some (.slice (some ⟨g, 0, none⟩) n cap) := by simp [World.cell?, h.blk]
theorem TB.lt (h : TB w t g n cap kind xs) : t < w.heap.size := (Array.getElem?_eq_some_iff.1 h.blk).1
theorem TB.ltg (h : TB w t g n cap kind xs) : g < w.heap.size := Kd.R_lt h.row g rfl
theorem TB.len (h : TB w t g n cap kind xs) : xs.length = n := (Kd.R_reads' h.row).1.symm
theorem TB.le (h : TB w t g n cap kind xs) : n ≤ cap := (Kd.R_reads' h.row).2.1
theorem TB.elem (h : TB w t g n cap kind xs) {i : Nat} {x : Sl} (hx : xs[i]? = some x) :
    (∀ j u, [Value.int .i64 x.f0, .bool x.f1, .int .i64 x.f2][j]? = some u → w.cell? ⟨g, i * 3 + j, none⟩ = some u) ∧ ∀ j, w.frozen? ⟨g, i * 3 + j, none⟩ = false := by
  have hi : i < xs.length := (List.getElem?_eq_some_iff.1 hx).1
  have hl := h.len
  obtain ⟨c, h1, h2, h3, h4⟩ := Kd.R_elem h.row z90 (i : Int) (by omega) (by omega)
  have e : xs.getD (i : Int).toNat z90 = x := by
    rw [List.getD_eq_getElem?_getD]; simp [hx]
  rw [e] at h2
  have h2' := k90_openM h2
  subst h2'
  exact ⟨fun j u hj => h3 j u hj, fun j => h4 j⟩
theorem TB.e0 (h : TB w t g n cap kind xs) {i : Nat} {x : Sl} (hx : xs[i]? = some x) : w.cell? ⟨g, i * 3, none⟩ = some (.int .i64 x.f0) := (h.elem hx).1 0 _ rfl
theorem TB.e1 (h : TB w t g n cap kind xs) {i : Nat} {x : Sl} (hx : xs[i]? = some x) : w.cell? ⟨g, i * 3 + 1, none⟩ = some (.bool x.f1) := (h.elem hx).1 1 _ rfl
theorem TB.e2 (h : TB w t g n cap kind xs) {i : Nat} {x : Sl} (hx : xs[i]? = some x) : w.cell? ⟨g, i * 3 + 2, none⟩ = some (.int .i64 x.f2) := (h.elem hx).1 2 _ rfl
theorem TB.f0 (h : TB w t g n cap kind xs) {i : Nat} {x : Sl} (hx : xs[i]? = some x) : w.frozen? ⟨g, i * 3, none⟩ = false := (h.elem hx).2 0
theorem TB.f1 (h : TB w t g n cap kind xs) {i : Nat} {x : Sl} (hx : xs[i]? = some x) : w.frozen? ⟨g, i * 3 + 1, none⟩ = false := (h.elem hx).2 1
theorem TB.f2 (h : TB w t g n cap kind xs) {i : Nat} {x : Sl} (hx : xs[i]? = some x) : w.frozen? ⟨g, i * 3 + 2, none⟩ = false := (h.elem hx).2 2
theorem TB.chg (h : TB w t g n cap kind xs) {S : Nat → Prop} (hc : Chg S w w') (h1 : ¬ S t) (h2 : ¬ S g) : TB w' t g n cap kind xs :=
  ⟨hc.heap h.blk h1, Kd.R_step h.row (fun k hk hlt => by obtain rfl : k = g := hk; exact hc.block _ hlt h2), h.ne⟩
theorem TB.below (h : TB w t g n cap kind xs) (hb : Below w.heap.size w w') : TB w' t g n cap kind xs :=
  h.chg (Chg.ofBelow hb (fun _ => False)) (fun f => f) (fun f => f)
theorem TB.drewN (h : TB w t g n cap kind xs) (m : Nat) : TB (w.drewN m) t g n cap kind xs := h.below (below_drewN' (Below.refl _ w) m)
theorem TB.drew (h : TB w t g n cap kind xs) : TB w.drew t g n cap kind xs := h.drewN 1
theorem TB.set (h : TB w t g n cap kind xs) {i : Nat} {x : Sl} (hx : xs[i]? = some x) (j : Nat) (v : Value) (x' : Sl) (hj : j < 3)
    (hv : [Value.int .i64 x'.f0, .bool x'.f1, .int .i64 x'.f2] = [Value.int .i64 x.f0, .bool x.f1, .int .i64 x.f2].set j v) :
    TB (w.setCell ⟨g, i * 3 + j, none⟩ v) t g n cap kind (xs.set i x') := by
  have hi : i < xs.length := (List.getElem?_eq_some_iff.1 hx).1
  have hl := h.len
  have r := Kd.R_seg (okp := fun _ => False) h.row (i : Int) (by omega) (by omega) (c := [Value.int .i64 x.f0, .bool x.f1, .int .i64 x.f2]) (seg := [v]) (j := j) rfl
    (fun j' u hu => (h.elem hx).1 j' u hu) (by show j + 1 ≤ 3; omega) (x' := x') (by
      have e : ([Value.int .i64 x.f0, .bool x.f1, .int .i64 x.f2].take j ++ [v] ++ [Value.int .i64 x.f0, .bool x.f1, .int .i64 x.f2].drop (j + [v].length)) = [Value.int .i64 x.f0, .bool x.f1, .int .i64 x.f2].set j v := by
        match j, hj with
        | 0, _ => rfl
        | 1, _ => rfl
        | 2, _ => rfl
      rw [e, ← hv]
      exact k90_mkM _ _ _ _) (fun k f => f.elim)
  have e : w.setCells g ((i : Int).toNat * kSl.sz + j) [v] = w.setCell ⟨g, i * 3 + j, none⟩ v := rfl
  rw [e] at r
  refine ⟨?_, by simpa using r.1, h.ne⟩
  rw [Below.heap_setCell _ _ _ _ (by show t ≠ g; exact fun e => h.ne e.symm)]
  exact h.blk
end

theorem TB.set3 {w : World} {t g n cap : Nat} {kind : Int} {xs : List Sl} (h : TB w t g n cap kind xs) {i : Nat} {x : Sl} (hx : xs[i]? = some x) (x' : Sl) :
    TB (((w.setCell ⟨g, i * 3, none⟩ (.int .i64 x'.f0)).setCell ⟨g, i * 3 + 1, none⟩ (.bool x'.f1)).setCell ⟨g, i * 3 + 2, none⟩ (.int .i64 x'.f2)) t g n cap kind (xs.set i x') := by
  have hi : i < xs.length := (List.getElem?_eq_some_iff.1 hx).1
  have h1 := h.set hx 0 (.int .i64 x'.f0) ⟨x'.f0, x.f1, x.f2⟩ (by omega) rfl
  have h2 := h1.set (i := i) (x := ⟨x'.f0, x.f1, x.f2⟩) (by simp [hi]) 1 (.bool x'.f1) ⟨x'.f0, x'.f1, x.f2⟩ (by omega) rfl
  have h3 := h2.set (i := i) (x := ⟨x'.f0, x'.f1, x.f2⟩) (by simp [hi]) 2 (.int .i64 x'.f2) x' (by omega) rfl
  simpa using h3

theorem Tk.set {kind : Int} {n : Nat} {xs : List Sl} (h : Tk kind n xs) (i : Nat) (x : Sl) (h0 : 1 ≤ x.f0) (h1 : x.f0 ≤ 1024) (h2 : x.f1 = true → x.f0 ≤ 1023) (h3 : x.f1 = false → x.f2 = 0) : Tk kind n (xs.set i x) := by
  refine ⟨h.k0, h.k3, h.n0, h.n1, by simpa using h.len, ?_, ?_, ?_⟩
  · intro j y hy
    rw [List.getElem?_set] at hy
    split at hy
    · split at hy
      · simp at hy; subst hy; exact ⟨h0, h1⟩
      · simp at hy
    · exact h.gen j y hy
  · intro j y hy hf
    rw [List.getElem?_set] at hy
    split at hy
    · split at hy
      · simp at hy; subst hy; exact h2 hf
      · simp at hy
    · exact h.top j y hy hf
  · intro j y hy hf
    rw [List.getElem?_set] at hy
    split at hy
    · split at hy
      · simp at hy; subst hy; exact h3 hf
      · simp at hy
    · exact h.zf j y hy hf

theorem name_q (t g n cap i : Nat) (kind : Int) (xs : List Sl) (x : Sl) (w : World) (h : TB w t g n cap kind xs) (hT : Tk kind n xs) (hx : xs[i]? = some x) (hle : x.f0 ≤ 1023) :
    Calls Tryd.prog 44 #[.pointer (some ⟨t, 0, none⟩), .int .i64 (i : Int)] w fun e w' => e = .returned (.int .i64 (mk kind i x.f0)) ∧ ∃ m, w' = w.drewN m := by
  have c0 := h.c0
  have c1 := h.c1
  have e0 := h.e0 hx
  have hi : i < n := by have := (List.getElem?_eq_some_iff.1 hx).1; have := h.len; omega
  have hn := hT.n1
  have M := fun w => make_q kind (i : Int) x.f0 w hT.k0 hT.k3 (by omega) (by omega) (hT.gen i x hx).1 hle
  have HM := Lib.hid M
  clear M h hT hx hle
  go_enter Tryd.func44, Tryd.ntmps44
  go_wp2_with (go_quiet ((go_at_call 78; exact Calls.quiet_of (HM.out _))))
  go_ret
  exact ⟨rfl, _, rfl⟩

end Go.Proofs.YtgjlkplieoajlaaDoor

set_option linter.unusedVariables false
set_option linter.unusedSimpArgs false
namespace Go.Proofs.YtgjlkplieoajlaaDoor
open Go.RowKit
open Go.Proofs.YtgjlkplieoajlaaDoorW.PrintWords (Kd Drawn0 Kept rd rdOf)
open Go.Proofs.YtgjlkplieoajlaaDoor.PSlotsTwins
set_option maxRecDepth 100000

theorem find_kind (t g n cap : Nat) (kind h v : Int) (xs : List Sl) (w : World) (H : TB w t g n cap kind xs) (hv : (if hokB h = true then hk h else 0) = v) (hne : (v == kind) = false) :
    Calls Tryd.prog 43 #[.pointer (some ⟨t, 0, none⟩), .int .i64 h] w fun e w' => e = .returned (.tuple #[.pointer none, .iface 85 (.int .i64 20)]) ∧ ∃ m, w' = w.drewN m := by
  have c0 := H.c0
  have K := fun w => kind_q h v w hv
  have HK := Lib.hid K
  clear K H hv
  go_enter Tryd.func43, Tryd.ntmps43
  go_wp2_with (go_quiet ((go_at_call 75; exact Calls.quiet_of (HK.out _))))
  go_ret2
  exact ⟨rfl, _, rfl⟩

theorem find_nil (h : Int) (w : World) :
    Calls Tryd.prog 43 #[.pointer none, .int .i64 h] w fun e w' => e = .returned (.tuple #[.pointer none, .iface 85 (.int .i64 20)]) ∧ ∃ m, w' = w.drewN m := by
  go_enter Tryd.func43, Tryd.ntmps43
  go_wp2_with (go_quiet (fail))
  go_ret2
  exact ⟨rfl, _, rfl⟩

theorem find_far (t g n cap i : Nat) (kind h : Int) (xs : List Sl) (w : World) (H : TB w t g n cap kind xs) (hv : (if hokB h = true then hk h else 0) = kind) (hi : (if hokB h = true then hs h else -1) = (i : Int)) (hfar : n ≤ i) :
    Calls Tryd.prog 43 #[.pointer (some ⟨t, 0, none⟩), .int .i64 h] w fun e w' => e = .returned (.tuple #[.pointer none, .iface 85 (.int .i64 20)]) ∧ ∃ m, w' = w.drewN m := by
  have c0 := H.c0
  have c1 := H.c1
  have K := fun w => kind_q h kind w hv
  have HK := Lib.hid K
  have S := fun w => slot_q h i w hi
  have HS := Lib.hid S
  have t0 : decide ((i : Int) < 0) = false := decide_eq_false (by omega)
  have t1 : decide (n ≤ i) = true := by simpa using hfar
  clear K S H hv hi hfar
  go_enter Tryd.func43, Tryd.ntmps43
  go_wp2_with (go_quiet ((first | (go_at_call 75; exact Calls.quiet_of (HK.out _)))))
  go_wp2_with ((go_at_call 76; refine (HS.out _).mono ?_; rintro e w' ⟨rfl, m, rfl⟩))
  go_wp2_with (go_quiet (fail))
  go_ret2
  exact ⟨rfl, _, rfl⟩

theorem find_free (t g n cap i : Nat) (kind h gen thing : Int) (xs : List Sl) (w : World) (H : TB w t g n cap kind xs) (hv : (if hokB h = true then hk h else 0) = kind) (hi : (if hokB h = true then hs h else -1) = (i : Int)) (hx : xs[i]? = some ⟨gen, false, thing⟩) :
    Calls Tryd.prog 43 #[.pointer (some ⟨t, 0, none⟩), .int .i64 h] w fun e w' => e = .returned (.tuple #[.pointer none, .iface 85 (.int .i64 20)]) ∧ ∃ m, w' = w.drewN m := by
  have c0 := H.c0
  have c1 := H.c1
  have hin : i < n := by have := (List.getElem?_eq_some_iff.1 hx).1; have := H.len; omega
  have K := fun w => kind_q h kind w hv
  have HK := Lib.hid K
  have S := fun w => slot_q h i w hi
  have HS := Lib.hid S
  have e1 : w.cell? ⟨g, i * 3 + 1, none⟩ = some (.bool false) := H.e1 hx
  have t0 : decide ((i : Int) < 0) = false := decide_eq_false (by omega)
  have t1 : decide (n ≤ i) = false := decide_eq_false (by omega)
  clear K S H hv hi hx
  go_enter Tryd.func43, Tryd.ntmps43
  go_wp2_with (go_quiet ((first | (go_at_call 75; exact Calls.quiet_of (HK.out _)))))
  go_wp2_with ((go_at_call 76; refine (HS.out _).mono ?_; rintro e w' ⟨rfl, m, rfl⟩))
  go_wp2_with (go_quiet (fail))
  go_ret2
  exact ⟨rfl, _, rfl⟩

theorem find_gen (t g n cap i : Nat) (kind h gen thing v : Int) (xs : List Sl) (w : World) (H : TB w t g n cap kind xs) (hv : (if hokB h = true then hk h else 0) = kind) (hi : (if hokB h = true then hs h else -1) = (i : Int)) (hgg : (if hokB h = true then hg h else 0) = v) (hx : xs[i]? = some ⟨gen, true, thing⟩) (hne : (gen == v) = false) :
    Calls Tryd.prog 43 #[.pointer (some ⟨t, 0, none⟩), .int .i64 h] w fun e w' => e = .returned (.tuple #[.pointer none, .iface 85 (.int .i64 20)]) ∧ ∃ m, w' = w.drewN m := by
  have c0 := H.c0
  have c1 := H.c1
  have hin : i < n := by have := (List.getElem?_eq_some_iff.1 hx).1; have := H.len; omega
  have K := fun w => kind_q h kind w hv
  have HK := Lib.hid K
  have S := fun w => slot_q h i w hi
  have HS := Lib.hid S
  have G := fun w => gen_q h v w hgg
  have HG := Lib.hid G
  have e1 : w.cell? ⟨g, i * 3 + 1, none⟩ = some (.bool true) := H.e1 hx
  have e0 : w.cell? ⟨g, i * 3, none⟩ = some (.int .i64 gen) := H.e0 hx
  have t0 : decide ((i : Int) < 0) = false := decide_eq_false (by omega)
  have t1 : decide (n ≤ i) = false := decide_eq_false (by omega)
  clear K S G H hv hi hgg hx
  go_enter Tryd.func43, Tryd.ntmps43
  go_wp2_with (go_quiet ((first | (go_at_call 75; exact Calls.quiet_of (HK.out _)))))
  go_wp2_with fail
  refine (HS.out _).mono ?_
  rintro e w' ⟨rfl, m, hw⟩
  have HW := Lib.hid (show ∃ m, w' = w.drewN m from ⟨_, by rw [hw, World.drewN_drewN]⟩)
  have c1' : w'.cell? ⟨t, 1, none⟩ = some (.slice (some ⟨g, 0, none⟩) n cap) := by rw [hw]; exact c1
  have e1' : w'.cell? ⟨g, i * 3 + 1, none⟩ = some (.bool true) := by rw [hw]; exact e1
  have e0' : w'.cell? ⟨g, i * 3, none⟩ = some (.int .i64 gen) := by rw [hw]; exact e0
  clear hw c0 c1 e1 e0
  go_wp2_with (go_quiet ((go_at_call 77; exact Calls.quiet_of (HG.out _))))
  go_ret2
  obtain ⟨m', rfl⟩ := HW.out
  exact ⟨rfl, _, World.drewN_drewN ..⟩

theorem find_got (t g n cap i : Nat) (kind h gen thing : Int) (xs : List Sl) (w : World) (H : TB w t g n cap kind xs) (hv : (if hokB h = true then hk h else 0) = kind) (hi : (if hokB h = true then hs h else -1) = (i : Int)) (hgg : (if hokB h = true then hg h else 0) = gen) (hx : xs[i]? = some ⟨gen, true, thing⟩) :
    Calls Tryd.prog 43 #[.pointer (some ⟨t, 0, none⟩), .int .i64 h] w fun e w' => e = .returned (.tuple #[.pointer (some ⟨g, i * 3, none⟩), .nilIface]) ∧ ∃ m, w' = w.drewN m := by
  have c0 := H.c0
  have c1 := H.c1
  have hin : i < n := by have := (List.getElem?_eq_some_iff.1 hx).1; have := H.len; omega
  have K := fun w => kind_q h kind w hv
  have HK := Lib.hid K
  have S := fun w => slot_q h i w hi
  have HS := Lib.hid S
  have G := fun w => gen_q h gen w hgg
  have HG := Lib.hid G
  have e1 : w.cell? ⟨g, i * 3 + 1, none⟩ = some (.bool true) := H.e1 hx
  have e0 : w.cell? ⟨g, i * 3, none⟩ = some (.int .i64 gen) := H.e0 hx
  have t0 : decide ((i : Int) < 0) = false := decide_eq_false (by omega)
  have t1 : decide (n ≤ i) = false := decide_eq_false (by omega)
  clear K S G H hv hi hgg hx
  go_enter Tryd.func43, Tryd.ntmps43
  go_wp2_with (go_quiet ((first | (go_at_call 75; exact Calls.quiet_of (HK.out _)))))
  go_wp2_with fail
  refine (HS.out _).mono ?_
  rintro e w' ⟨rfl, m, hw⟩
  have HW := Lib.hid (show ∃ m, w' = w.drewN m from ⟨_, by rw [hw, World.drewN_drewN]⟩)
  have c1' : w'.cell? ⟨t, 1, none⟩ = some (.slice (some ⟨g, 0, none⟩) n cap) := by rw [hw]; exact c1
  have e1' : w'.cell? ⟨g, i * 3 + 1, none⟩ = some (.bool true) := by rw [hw]; exact e1
  have e0' : w'.cell? ⟨g, i * 3, none⟩ = some (.int .i64 gen) := by rw [hw]; exact e0
  clear hw c0 c1 e1 e0
  go_wp2_with (go_quiet ((go_at_call 77; exact Calls.quiet_of (HG.out _))))
  go_ret2
  obtain ⟨m', rfl⟩ := HW.out
  exact ⟨rfl, _, World.drewN_drewN ..⟩

/-- The slot i bears the handle h. -/
def At (kind h : Int) (xs : List Sl) (i : Nat) (x : Sl) : Prop := xs[i]? = some x ∧ x.f1 = true ∧ mk kind i x.f0 = h
def NoAt (kind h : Int) (xs : List Sl) : Prop := ∀ (i : Nat) (x : Sl), ¬ At kind h xs i x

theorem at_or (kind h : Int) (xs : List Sl) : (∃ i x, At kind h xs i x) ∨ NoAt kind h xs := by
  by_cases e : ∃ i x, At kind h xs i x
  · exact .inl e
  · exact .inr (fun i x k => e ⟨i, x, k⟩)

theorem find_hit (t g n cap i : Nat) (kind h : Int) (xs : List Sl) (x : Sl) (w : World) (H : TB w t g n cap kind xs) (hT : Tk kind n xs) (ha : At kind h xs i x) :
    Calls Tryd.prog 43 #[.pointer (some ⟨t, 0, none⟩), .int .i64 h] w fun e w' => e = .returned (.tuple #[.pointer (some ⟨g, i * 3, none⟩), .nilIface]) ∧ ∃ m, w' = w.drewN m := by
  obtain ⟨hx, hf, he⟩ := ha
  have hi := (List.getElem?_eq_some_iff.1 hx).1
  have hl := H.len
  have hn := hT.n1
  have g1 := hT.gen i x hx
  have g2 := hT.top i x hx hf
  have p := hk_mk kind (i : Int) x.f0 (by omega) (by omega) (by omega) (by omega)
  rw [he] at p
  have ok : hokB h = true := by
    unfold hokB
    rw [p.1, p.2.1, p.2.2]
    have := hT.k0; have := hT.k3
    exact decide_eq_true (by omega)
  obtain ⟨gen, tk, thing⟩ := x
  obtain rfl : tk = true := hf
  exact find_got t g n cap i kind h gen thing xs w H (by rw [if_pos ok, p.1]) (by rw [if_pos ok, p.2.1]) (by rw [if_pos ok, p.2.2]) hx

theorem find_miss (t g n cap : Nat) (kind h : Int) (xs : List Sl) (w : World) (H : TB w t g n cap kind xs) (hT : Tk kind n xs) (hno : NoAt kind h xs) :
    Calls Tryd.prog 43 #[.pointer (some ⟨t, 0, none⟩), .int .i64 h] w fun e w' => e = .returned (.tuple #[.pointer none, .iface 85 (.int .i64 20)]) ∧ ∃ m, w' = w.drewN m := by
  have k0 := hT.k0
  have hl := H.len
  by_cases ok : hokB h = true ∧ hk h = kind
  · obtain ⟨ok, hkk⟩ := ok
    have r := hs_range h
    obtain ⟨i, hi⟩ : ∃ i : Nat, hs h = (i : Int) := ⟨(hs h).toNat, by omega⟩
    have hv : (if hokB h = true then hk h else 0) = kind := by rw [if_pos ok, hkk]
    have hs' : (if hokB h = true then hs h else -1) = (i : Int) := by rw [if_pos ok, hi]
    by_cases far : n ≤ i
    · exact find_far t g n cap i kind h xs w H hv hs' far
    · obtain ⟨⟨gen, tk, thing⟩, hx⟩ : ∃ x, xs[i]? = some x := ⟨xs[i], List.getElem?_eq_getElem (by omega)⟩
      cases tk with
      | false => exact find_free t g n cap i kind h gen thing xs w H hv hs' hx
      | true =>
        refine find_gen t g n cap i kind h gen thing (hg h) xs w H hv hs' (by rw [if_pos ok]) hx ?_
        have := hno i ⟨gen, true, thing⟩
        unfold At at this
        by_cases e : gen = hg h
        · exfalso
          refine this ⟨hx, rfl, ?_⟩
          show mk kind i gen = h
          rw [e, ← hi, ← hkk, mk_parts]
        · simpa using e
  · refine find_kind t g n cap kind h _ xs w H rfl ?_
    by_cases o : hokB h = true
    · rw [if_pos o]
      have : hk h ≠ kind := fun e => ok ⟨o, e⟩
      simpa using this
    · rw [if_neg o]
      simp; omega

end Go.Proofs.YtgjlkplieoajlaaDoor

set_option linter.unusedVariables false
set_option linter.unusedSimpArgs false
namespace Go.Proofs.YtgjlkplieoajlaaDoor
open Go.RowKit
open Go.Proofs.YtgjlkplieoajlaaDoorW.PrintWords (Kd Drawn0 Kept rd rdOf)
open Go.Proofs.YtgjlkplieoajlaaDoor.PSlotsTwins
set_option maxRecDepth 100000

theorem get_hit (t g n cap i : Nat) (kind h : Int) (xs : List Sl) (x : Sl) (w : World) (H : TB w t g n cap kind xs) (hT : Tk kind n xs) (ha : At kind h xs i x) :
    Calls Tryd.prog 16 #[.pointer (some ⟨t, 0, none⟩), .int .i64 h] w fun e w' => e = .returned (.tuple #[.int .i64 x.f2, .nilIface]) ∧ ∃ m, w' = w.drewN m := by
  have F := Lib.hid (find_hit t g n cap i kind h xs x w H hT ha)
  have e2 := H.e2 ha.1
  clear H hT ha
  go_enter Tryd.func16, Tryd.ntmps16
  go_wp2_with fail
  refine F.out.mono ?_
  rintro e w' ⟨rfl, m, rfl⟩
  go_wp2
  go_ret2
  exact ⟨rfl, _, rfl⟩

theorem get_miss (t g n cap : Nat) (kind h : Int) (xs : List Sl) (w : World) (H : TB w t g n cap kind xs) (hT : Tk kind n xs) (ha : NoAt kind h xs) :
    Calls Tryd.prog 16 #[.pointer (some ⟨t, 0, none⟩), .int .i64 h] w fun e w' => e = .returned (.tuple #[.int .i64 0, .iface 85 (.int .i64 20)]) ∧ ∃ m, w' = w.drewN m := by
  have F := Lib.hid (find_miss t g n cap kind h xs w H hT ha)
  clear H hT ha
  go_enter Tryd.func16, Tryd.ntmps16
  go_wp2_with fail
  refine F.out.mono ?_
  rintro e w' ⟨rfl, m, rfl⟩
  go_wp2
  go_ret2
  exact ⟨rfl, _, rfl⟩

theorem set_hit (t g n cap i : Nat) (kind h v : Int) (xs : List Sl) (x : Sl) (w : World) (H : TB w t g n cap kind xs) (hT : Tk kind n xs) (ha : At kind h xs i x) :
    Calls Tryd.prog 17 #[.pointer (some ⟨t, 0, none⟩), .int .i64 h, .int .i64 v] w fun e w' => e = .returned .nilIface ∧ TB w' t g n cap kind (xs.set i ⟨x.f0, x.f1, v⟩) ∧ Chg (fun k => k = g) w w' := by
  have F := Lib.hid (find_hit t g n cap i kind h xs x w H hT ha)
  have e2 := H.e2 ha.1
  have f2 := H.f2 ha.1
  have HH := Lib.hid H
  have HA := Lib.hid ha
  clear H hT ha
  go_enter Tryd.func17, Tryd.ntmps17
  go_wp2_with fail
  refine F.out.mono ?_
  rintro e w' ⟨rfl, m, rfl⟩
  go_wp2
  go_ret
  exact ⟨rfl, (HH.out.drewN m).set HA.out.1 2 _ ⟨x.f0, x.f1, v⟩ (by omega) rfl, ((Chg.refl _ w).drewN m).setCell ⟨g, i * 3 + 2, none⟩ _ rfl⟩

theorem set_miss (t g n cap : Nat) (kind h v : Int) (xs : List Sl) (w : World) (H : TB w t g n cap kind xs) (hT : Tk kind n xs) (ha : NoAt kind h xs) :
    Calls Tryd.prog 17 #[.pointer (some ⟨t, 0, none⟩), .int .i64 h, .int .i64 v] w fun e w' => e = .returned (.iface 85 (.int .i64 20)) ∧ ∃ m, w' = w.drewN m := by
  have F := Lib.hid (find_miss t g n cap kind h xs w H hT ha)
  clear H hT ha
  go_enter Tryd.func17, Tryd.ntmps17
  go_wp2_with fail
  refine F.out.mono ?_
  rintro e w' ⟨rfl, m, rfl⟩
  go_wp2
  go_ret
  exact ⟨rfl, _, rfl⟩

theorem drop_miss (t g n cap : Nat) (kind h : Int) (xs : List Sl) (w : World) (H : TB w t g n cap kind xs) (hT : Tk kind n xs) (ha : NoAt kind h xs) :
    Calls Tryd.prog 14 #[.pointer (some ⟨t, 0, none⟩), .int .i64 h] w fun e w' => e = .returned (.iface 85 (.int .i64 20)) ∧ ∃ m, w' = w.drewN m := by
  have F := Lib.hid (find_miss t g n cap kind h xs w H hT ha)
  clear H hT ha
  go_enter Tryd.func14, Tryd.ntmps14
  go_wp2_with fail
  refine F.out.mono ?_
  rintro e w' ⟨rfl, m, rfl⟩
  go_wp2
  go_ret
  exact ⟨rfl, _, rfl⟩

theorem drop_hit (t g n cap i : Nat) (kind h : Int) (xs : List Sl) (x : Sl) (w : World) (H : TB w t g n cap kind xs) (hT : Tk kind n xs) (ha : At kind h xs i x) :
    Calls Tryd.prog 14 #[.pointer (some ⟨t, 0, none⟩), .int .i64 h] w fun e w' => e = .returned .nilIface ∧ TB w' t g n cap kind (xs.set i ⟨x.f0 + 1, false, 0⟩) ∧ Chg (fun k => k = g) w w' := by
  have F := Lib.hid (find_hit t g n cap i kind h xs x w H hT ha)
  have g1 := (hT.gen i x ha.1).1
  have g2 := (hT.gen i x ha.1).2
  have e0 := H.e0 ha.1
  have e1 := H.e1 ha.1
  have e2 := H.e2 ha.1
  have f0 := H.f0 ha.1
  have f1 := H.f1 ha.1
  have f2 := H.f2 ha.1
  have HH := Lib.hid H
  have HA := Lib.hid ha
  clear H hT ha
  go_enter Tryd.func14, Tryd.ntmps14
  go_wp2_with fail
  refine F.out.mono ?_
  rintro e w' ⟨rfl, m, rfl⟩
  go_wp2
  go_ret
  exact ⟨rfl, (HH.out.drewN m).set3 HA.out.1 ⟨x.f0 + 1, false, 0⟩, ((((Chg.refl (fun k => k = g) w).drewN m).setCell ⟨g, i * 3, none⟩ _ rfl).setCell ⟨g, i * 3 + 1, none⟩ _ rfl).setCell ⟨g, i * 3 + 2, none⟩ _ rfl⟩

end Go.Proofs.YtgjlkplieoajlaaDoor

set_option linter.unusedVariables false
set_option linter.unusedSimpArgs false
namespace Go.Proofs.YtgjlkplieoajlaaDoor
open Go.RowKit
open Go.Proofs.YtgjlkplieoajlaaDoorW.PrintWords (Kd Drawn0 Kept rd rdOf)
open Go.Proofs.YtgjlkplieoajlaaDoor.PSlotsTwins
set_option maxRecDepth 100000

/-- May the slot be given? -/
def FreeSl (x : Sl) : Prop := x.f1 = false ∧ x.f0 ≤ 1023
instance (x : Sl) : Decidable (FreeSl x) := by unfold FreeSl; infer_instance

theorem add_nil (v : Int) (w : World) :
    Calls Tryd.prog 15 #[.pointer none, .int .i64 v] w fun e w' => e = .returned (.tuple #[.int .i64 0, .iface 85 (.int .i64 30)]) ∧ w = w' := by
  go_enter Tryd.func15, Tryd.ntmps15
  go_wp2
  go_ret2
  exact ⟨rfl, rfl⟩

theorem add_full (t g n cap : Nat) (kind v : Int) (xs : List Sl) (w : World) (H : TB w t g n cap kind xs) (hT : Tk kind n xs) (ha : ∀ (i : Nat) (x : Sl), xs[i]? = some x → ¬ FreeSl x) :
    Calls Tryd.prog 15 #[.pointer (some ⟨t, 0, none⟩), .int .i64 v] w fun e w' => e = .returned (.tuple #[.int .i64 0, .iface 85 (.int .i64 30)]) ∧ w = w' := by
  have c1 := H.c1
  have hl := H.len
  have hn := hT.n1
  have HH := Lib.hid H
  have HA := Lib.hid ha
  clear H hT ha
  go_enter Tryd.func15, Tryd.ntmps15
  go_wp2
  go_loop [16] (fun i => ∃ k : Nat, k ≤ n ∧ i = .int .i64 k) (fun i => n - (intOf i).toNat)
  case atStart => exact ⟨0, Nat.zero_le _, rfl⟩
  case round =>
    obtain ⟨k, hk, rfl⟩ := hrel
    by_cases hlt : k < n
    · obtain ⟨x, hx⟩ : ∃ x, xs[k]? = some x := ⟨xs[k], List.getElem?_eq_getElem (by omega)⟩
      have e1 := HH.out.e1 hx
      have e0 := HH.out.e0 hx
      have hno := HA.out k x hx
      clear hx
      obtain ⟨gen, tk, thing⟩ := x
      cases tk with
      | true =>
        clear hno
        go_wp2
        go_round
        case rel => exact ⟨k + 1, by omega, by go_num⟩
        case measure => simp [intOf]; omega
      | false =>
        have t1 : decide (gen ≤ 1023) = false := decide_eq_false (fun h => hno ⟨rfl, h⟩)
        clear hno
        go_wp2
        go_round
        case rel => exact ⟨k + 1, by omega, by go_num⟩
        case measure => simp [intOf]; omega
    · go_wp2
      go_ret2
      exact ⟨rfl, rfl⟩

theorem add_hit (t g n cap i : Nat) (kind v : Int) (xs : List Sl) (x : Sl) (w : World) (H : TB w t g n cap kind xs) (hT : Tk kind n xs) (hx : xs[i]? = some x) (hf : FreeSl x) (ha : ∀ (j : Nat) (y : Sl), j < i → xs[j]? = some y → ¬ FreeSl y) :
    Calls Tryd.prog 15 #[.pointer (some ⟨t, 0, none⟩), .int .i64 v] w fun e w' => e = .returned (.tuple #[.int .i64 (mk kind i x.f0), .nilIface]) ∧ TB w' t g n cap kind (xs.set i ⟨x.f0, true, v⟩) ∧ Chg (fun k => k = g) w w' := by
  have c1 := H.c1
  have hl := H.len
  have hn := hT.n1
  have hi : i < n := by have := (List.getElem?_eq_some_iff.1 hx).1; omega
  have HH := Lib.hid H
  have HT := Lib.hid hT
  have HA := Lib.hid ha
  obtain ⟨gen, tk, thing⟩ := x
  obtain ⟨hf1, hf2⟩ := hf
  obtain rfl : tk = false := hf1
  have HX := Lib.hid hx
  have HF := Lib.hid hf2
  clear H hT ha hx hf2
  go_enter Tryd.func15, Tryd.ntmps15
  go_wp2
  go_loop [16] (fun u => ∃ k : Nat, k ≤ i ∧ u = .int .i64 k) (fun u => i - (intOf u).toNat)
  case atStart => exact ⟨0, Nat.zero_le _, rfl⟩
  case round =>
    obtain ⟨k, hk, rfl⟩ := hrel
    have hkn : k < n := by omega
    by_cases hlt : k < i
    · obtain ⟨y, hy⟩ : ∃ y, xs[k]? = some y := ⟨xs[k], List.getElem?_eq_getElem (by omega)⟩
      have e1 := HH.out.e1 hy
      have e0 := HH.out.e0 hy
      have hno := HA.out k y hlt hy
      clear hy
      obtain ⟨gen', tk, thing'⟩ := y
      cases tk with
      | true =>
        clear hno
        go_wp2
        go_round
        case rel => exact ⟨k + 1, by omega, by go_num⟩
        case measure => simp [intOf]; omega
      | false =>
        have t1 : decide (gen' ≤ 1023) = false := decide_eq_false (fun h => hno ⟨rfl, h⟩)
        clear hno
        go_wp2
        go_round
        case rel => exact ⟨k + 1, by omega, by go_num⟩
        case measure => simp [intOf]; omega
    · obtain rfl : k = i := by omega
      have e1 : w.cell? ⟨g, k * 3 + 1, none⟩ = some (.bool false) := HH.out.e1 HX.out
      have e0 : w.cell? ⟨g, k * 3, none⟩ = some (.int .i64 gen) := HH.out.e0 HX.out
      have e2 : w.cell? ⟨g, k * 3 + 2, none⟩ = some (.int .i64 thing) := HH.out.e2 HX.out
      have f1 := HH.out.f1 HX.out
      have f2 := HH.out.f2 HX.out
      have t1 : decide (gen ≤ 1023) = true := decide_eq_true HF.out
      have hkl : k < xs.length := by omega
      have H2 : TB ((w.setCell ⟨g, k * 3 + 1, none⟩ (.bool true)).setCell ⟨g, k * 3 + 2, none⟩ (.int .i64 v)) t g n cap kind (xs.set k ⟨gen, true, v⟩) := by
        have h1 := HH.out.set HX.out 1 (.bool true) ⟨gen, true, thing⟩ (by omega) rfl
        have h2 := h1.set (i := k) (x := ⟨gen, true, thing⟩) (by simp [hkl]) 2 (.int .i64 v) ⟨gen, true, v⟩ (by omega) rfl
        simpa using h2
      have N := name_q t g n cap k kind _ ⟨gen, true, v⟩ _ H2 (HT.out.set k ⟨gen, true, v⟩ (HT.out.gen k _ HX.out).1 (HT.out.gen k _ HX.out).2 (fun _ => HF.out) (fun f => by simp at f)) (by simp [hkl]) HF.out
      have HN := Lib.hid N
      have HH2 := Lib.hid H2
      clear N H2
      go_wp2_with fail
      refine HN.out.mono ?_
      rintro e w' ⟨rfl, m, rfl⟩
      go_wp2
      go_ret2
      exact ⟨rfl, HH2.out.drewN m, (((Chg.refl (fun k => k = g) w).setCell ⟨g, k * 3 + 1, none⟩ _ rfl).setCell ⟨g, k * 3 + 2, none⟩ _ rfl).drewN m⟩

end Go.Proofs.YtgjlkplieoajlaaDoor
