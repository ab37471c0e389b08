/- slots.New, by contract. -/
import Derived.Test.YtgjlkplieoajlaaDoorSl6
set_option linter.unusedVariables false
set_option linter.unusedSimpArgs false
namespace Go.Proofs.YtgjlkplieoajlaaDoor
open Go.RowKit
open Go.Proofs.YtgjlkplieoajlaaDoorW.PrintWords (Kd Drawn0 Kept rd rdOf gate_dst)
open Go.Proofs.YtgjlkplieoajlaaDoor.PSlotsTwins
set_option maxRecDepth 100000

def oneSl : Sl := ⟨1, false, 0⟩
def midSl (k n : Nat) : List Sl := (List.range n).map fun i => if i < k then oneSl else z90
theorem midSl_len (k n : Nat) : (midSl k n).length = n := by simp [midSl]
theorem midSl_at {k n : Nat} (h : k < n) : (midSl k n)[k]? = some z90 := by
  unfold midSl
  rw [List.getElem?_map, List.getElem?_range h]
  simp
theorem midSl_set {k n : Nat} (h : k < n) : (midSl k n).set k oneSl = midSl (k + 1) n := by
  apply List.ext_getElem (by simp [midSl])
  intro i h1 h2
  rw [List.getElem_set]
  simp only [midSl, List.getElem_map, List.getElem_range]
  split
  · rename_i e; subst e; rw [if_pos (by omega)]
  · rename_i e
    by_cases hk : i < k
    · rw [if_pos hk, if_pos (by omega)]
    · rw [if_neg hk, if_neg (by omega)]
theorem midSl_end (n : Nat) : midSl n n = List.replicate n oneSl := by
  apply List.ext_getElem (by simp [midSl])
  intro i h1 h2
  have : i < n := by simpa [midSl] using h1
  simp [midSl, this]
theorem midSl_start (n : Nat) : midSl 0 n = List.replicate n z90 := by
  apply List.ext_getElem (by simp [midSl])
  intro i h1 h2
  simp [midSl]

theorem infoSl : (Tryd.prog.info? 90).map (fun i => (i.zero, i.size, i.bytes)) = some (some (.agg #[.int .i64 0, .bool false, .int .i64 0]), 3, 24) := by kernel_rfl

theorem Tk.one {kind : Int} {n : Nat} (k0 : 1 ≤ kind) (k3 : kind ≤ 3) (n0 : 1 ≤ n) (n1 : n ≤ 4096) : Tk kind n (List.replicate n oneSl) := by
  refine ⟨k0, k3, n0, n1, by simp, ?_, ?_⟩
  · intro i x hx
    obtain ⟨h, e⟩ := List.getElem?_eq_some_iff.1 hx
    rw [List.getElem_replicate] at e
    subst e
    exact ⟨by decide, by decide⟩
  · intro i x hx hf
    obtain ⟨h, e⟩ := List.getElem?_eq_some_iff.1 hx
    rw [List.getElem_replicate] at e
    subst e
    simp [oneSl] at hf

theorem TB.ofR {w : World} {t b n : Nat} {kind : Int} {v : Value} {xs : List Sl} {ok : Nat → Prop} (hb : w.heap[t]? = some (.cells #[.int .i64 kind, v] 88 (0, 0))) (hr : kSl.R 90 w b ok v xs) (hn : 0 < n) (hl : xs.length = n) (hbt : t < b ∨ ∀ k, v.ownBlock = some k → k ≠ t) : ∃ g cap, v = .slice (some ⟨g, 0, none⟩) n cap ∧ b ≤ g ∧ TB w t g n cap kind xs := by
  obtain ⟨g, cap, hv, hg, hlt, cells, hc⟩ := Kd.R_form hr (by omega)
  subst hv
  rw [hl] at hb hr ⊢
  refine ⟨g, cap, rfl, hg, hb, ⟨fun k hk => ?_, ?_⟩, ?_⟩
  · have : g = k := by simpa [Value.ownBlock] using hk
    exact this.symm
  · obtain ⟨h1, h2⟩ := Kd.R_lower hr (Nat.zero_le b)
    exact h2.imp_ (fun x cs hp => by
      have e := k90_openM hp
      subst e
      exact k90_mkM _ _ _ _)
  · rcases hbt with h | h
    · omega
    · exact h g rfl

theorem snew_bad (kind many : Int) (w : World) (h : ¬ (1 ≤ kind ∧ kind ≤ 3 ∧ 1 ≤ many ∧ many ≤ 4096)) :
    Calls Tryd.prog 9 #[.int .i64 kind, .int .i64 many] w fun e w' => e = .returned (.tuple #[.pointer none, .iface 85 (.int .i64 1)]) ∧ ∃ m, w' = w.drewN m := by
  by_cases h1 : kind < 1
  · have t1 : decide (kind < 1) = true := decide_eq_true h1
    clear h h1
    go_enter Tryd.func9, Tryd.ntmps9
    go_wp2
    go_ret2
    exact ⟨rfl, 0, rfl⟩
  · have t1 : decide (kind < 1) = false := decide_eq_false h1
    by_cases h2 : 3 < kind
    · have t2 : decide (3 < kind) = true := decide_eq_true h2
      clear h h1 h2
      go_enter Tryd.func9, Tryd.ntmps9
      go_wp2
      go_ret2
      exact ⟨rfl, 0, rfl⟩
    · have t2 : decide (3 < kind) = false := decide_eq_false h2
      by_cases h3 : many < 1
      · have t3 : decide (many < 1) = true := decide_eq_true h3
        clear h h1 h2 h3
        go_enter Tryd.func9, Tryd.ntmps9
        go_wp2
        go_ret2
        exact ⟨rfl, 0, rfl⟩
      · have t3 : decide (many < 1) = false := decide_eq_false h3
        have t4 : decide (4096 < many) = true := decide_eq_true (by omega)
        clear h h1 h2 h3
        go_enter Tryd.func9, Tryd.ntmps9
        go_wp2
        go_ret2
        exact ⟨rfl, 0, rfl⟩

theorem snew_ok (kind : Int) (n : Nat) (w : World) (k0 : 1 ≤ kind) (k3 : kind ≤ 3) (n0 : 1 ≤ n) (n1 : n ≤ 4096) :
    Calls Tryd.prog 9 #[.int .i64 kind, .int .i64 (n : Int)] w fun e w' => ∃ t g cap, e = .returned (.tuple #[.pointer (some ⟨t, 0, none⟩), .nilIface]) ∧ TB w' t g n cap kind (List.replicate n oneSl) ∧ w.heap.size ≤ t ∧ w.heap.size ≤ g ∧ Below w.heap.size w w' := by
  have t1 : decide (kind < 1) = false := decide_eq_false (by omega)
  have t2 : decide (3 < kind) = false := decide_eq_false (by omega)
  have t3 : decide ((n : Int) < 1) = false := decide_eq_false (by omega)
  have t4 : decide ((4096 : Int) < n) = false := decide_eq_false (by omega)
  have t3' : decide (n < 1) = false := decide_eq_false (by omega)
  have t4' : decide (4096 < n) = false := decide_eq_false (by omega)
  go_enter Tryd.func9, Tryd.ntmps9
  go_wp2_with (first | ((with_reducible refine gate_dst (N := 25) rfl ?_); refine Kd.R_make kSl w.heap.size 90 rfl (N := 25) rfl 86 (.tmp 24) (.tmp 24) rfl (n : Int) rfl rfl Tryd.underlying86 _ 24 infoSl rfl (by decide) (by omega) z90 (ok := fun _ => True) (okp := fun _ => True) (k90_mkM _ _ _ _) (fun _ hk => hk) trivial (by omega) (by simp; omega) (Below.refl _ _) (Nat.le_refl _) ?_; intro v1 w1 hr hb hgr hnn; obtain ⟨g, cap, e1, hgb, hlt, cells, hc⟩ := Kd.R_form hr (by simp; omega); rw [show (List.replicate (n : Int).toNat z90).length = n by simp] at e1; subst e1; have HR := Lib.hid hr; have HB := Lib.hid hb; clear hgr hnn hc hr hb cells) | fail)
  have HB2 := Lib.hid (below_alloc HB.out (Nat.le_refl _) (.cells #[.int .i64 kind, .slice (some ⟨g, 0, none⟩) n cap] 88))
  have HT : Hid (TB (w1.alloc (.cells #[.int .i64 kind, .slice (some ⟨g, 0, none⟩) n cap] 88)) w1.heap.size g n cap kind (midSl 0 n)) := by
    have hr2 := Kd.R_alloc HR.out (.cells #[.int .i64 kind, .slice (some ⟨g, 0, none⟩) n cap] 88)
    rw [midSl_start]
    obtain ⟨g', cap', e, _, h⟩ := TB.ofR (n := n) (kind := kind) (t := w1.heap.size) (by simpa using heap_alloc_new w1 _) hr2 (by omega) (by simp) (.inr (fun k hk => by simp [Value.ownBlock] at hk; omega))
    simp only [Value.slice.injEq, Option.some.injEq, Addr.mk.injEq] at e
    obtain ⟨⟨rfl, -, -⟩, -, rfl⟩ := e
    exact Lib.hid (by simpa using h)
  have hwt := HB.out.size
  generalize w1.alloc (.cells #[.int .i64 kind, .slice (some ⟨g, 0, none⟩) n cap] 88) = W2 at HB2 HT ⊢
  generalize w1.heap.size = t at hlt hwt HT ⊢
  clear HR HB
  go_loopw [33] (fun i wr => ∃ k : Nat, k ≤ n ∧ i = .int .i64 k ∧ Hid (TB wr t g n cap kind (midSl k n)) ∧ Hid (Below w.heap.size w wr)) (fun i _ => n - (intOf i).toNat)
  case atStart => exact ⟨0, Nat.zero_le _, rfl, HT, HB2⟩
  case round =>
    obtain ⟨k, hk, rfl, hT, hB⟩ := hrel
    clear HT HB2
    by_cases hlt : k < n
    · have c1 := hT.out.c1
      have e0 := hT.out.e0 (midSl_at hlt)
      have f0 := hT.out.f0 (midSl_at hlt)
      have HS := Lib.hid (hT.out.set (midSl_at hlt) 0 (.int .i64 1) oneSl (by omega) rfl)
      rw [midSl_set hlt] at HS
      have HBS := Lib.hid (hB.out.setCell (p := ⟨g, k * 3 + 0, none⟩) hgb (.int .i64 1))
      clear hT hB
      go_wp2
      go_roundw
      case rel => exact ⟨k + 1, by omega, by go_num, HS, HBS⟩
      case measure => simp [intOf]; omega
    · obtain rfl : k = n := by omega
      go_wp2
      go_ret2
      rw [midSl_end] at hT
      exact ⟨t, g, cap, rfl, hT.out, hwt, hgb, hB.out⟩

end Go.Proofs.YtgjlkplieoajlaaDoor
