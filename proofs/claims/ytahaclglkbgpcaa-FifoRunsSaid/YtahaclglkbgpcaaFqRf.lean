/- tithelaw04.alike: what it leans on. -/
import Derived.Test.YtahaclglkbgpcaaFqT6
import Derived.Test.YtahaclglkbgpcaaFqRe
set_option linter.unusedVariables false
set_option linter.unusedSimpArgs false
namespace Go.Proofs.Ytahaclglkbgpcaa
open Go.RowKit Go.Shelf
set_option maxRecDepth 100000
attribute [local go_sem] Oper.semAt_some

/-- The caller's word: the box holds the queue, and it has these elements. -/
def TV (Bs q lim : Nat) (zs : List Int) (pre : List (Nat × Int)) (W : World) : Prop :=
  W.cell? ⟨Bs, 0, none⟩ = some (.pointer (some ⟨q, 0, none⟩)) ∧ QZ (fun _ => False) W q lim zs

set_option maxHeartbeats 1000000 in
theorem all1_V (n : Nat) (hn : 1 ≤ n) (Bs q lim : Nat) (zs : List Int) (hz4 : zs.length ≤ 4096) (w : World) :
    SeqT n Try.prog 53 #[.pointer (some ⟨Bs, 0, none⟩)] (fun x : Nat × Int => #[.int .i64 (x.1 : Int), .int .i64 x.2]) (fun pre x => x = (pre.length, zs[pre.length]?.getD 0) ∧ pre.length < zs.length) (TV Bs q lim zs) (fun xs => xs.length = zs.length) w := by
  intro l J W hb hJ hT hY h0
  refine callsIn_of_wp Try.func53 rfl trivial ?_ rfl
  simp only [Try.ntmps53, List.size_toArray, List.length_cons, List.length_nil, Nat.reduceAdd, Nat.reduceSub, Array.replicate_succ, Array.replicate_zero, List.push_toArray, List.append_toArray, List.nil_append, List.cons_append]
  gi_wp2
  gi_loopw [3] (fun i wr => ∃ k : Nat, i = .int .i64 k ∧ k ≤ 4096 ∧ k ≤ zs.length ∧ Hid (∃ pre, pre.length = k ∧ J pre wr)) (fun i _ => 4096 - (intOf i).toNat)
  case atStart => exact ⟨0, rfl, Nat.zero_le _, Nat.zero_le _, Lib.hid ⟨[], rfl, h0⟩⟩
  case round =>
    obtain ⟨k, rfl, hk4, hkm, hJs⟩ := hrel
    obtain ⟨pre, hpl, hJp⟩ := hJs.out
    obtain ⟨hBx, hQ⟩ := hT _ _ hJp
    have c2 := hQ.c2
    by_cases hlt : k < zs.length
    · obtain ⟨g, nn, cap, first, c0, c1, f1, f2, f3, hx⟩ := hQ.ring hlt
      have hk5 : k < 4096 := by omega
      obtain ⟨m, hm⟩ : ∃ m, m = (first + k) % nn := ⟨_, rfl⟩
      have hmn : m < nn := by rw [hm]; exact Nat.mod_lt _ (by omega)
      rw [← hm] at hx
      obtain ⟨x, hxv⟩ : ∃ x, x = zs[k]?.getD 0 := ⟨_, rfl⟩
      rw [← hxv] at hx
      have A : ∀ w2 : World, w2.heap = wr.heap → CallsIn Fence.wide (n - 1) Try.prog 46 #[.pointer (some ⟨q, 0, none⟩), .int .i64 k] w2 fun e w' => e = .returned (.int .i64 (m : Int)) ∧ ∃ d, w' = w2.drewN d := fun w2 e => by
        have e2 : ∀ p, w2.cell? p = wr.cell? p := fun p => by simp [World.cell?, e]
        have := at_q q _ cap k first nn w2 f2 f1 (by omega) (by rw [e2]; exact c0) (by rw [e2]; exact c1)
        rw [← hm] at this
        exact callsIn_wide.2 this
      have HA := Lib.hid A
      have Y : ∀ D : Nat, YieldAt Fence.wide (n - 1) Try.prog l #[.int .i64 (k : Int), .int .i64 x] (wr.drewN D) fun e W' => e = .returned (.bool true) ∧ ∃ pre, pre.length = k + 1 ∧ J pre W' := fun D => by
        have h := hY pre (k, x) (wr.drewN D) (hJ _ _ _ none hJp (grown_drewN wr D) (fun r e => by cases e)) ⟨by rw [hpl, hxv], by rw [hpl]; exact hlt⟩
        refine h.mono ?_
        rintro e W' ⟨rfl, h1⟩
        exact ⟨rfl, _, by rw [List.length_append, hpl]; rfl, h1⟩
      have HY := Lib.hid Y
      clear Y
      have HQ := Lib.hid hQ
      have HXV := Lib.hid hxv
      clear hm hxv hQ A hJp hJs
      have mixed : Try.prog.follows Departure.mixedOrders = true := by kernel_rfl
      gi_wp2_with (refine ⟨trivial, ?_⟩; gi_at_call 45; refine (callsIn_wide.2 (has_t q k zs.length _ c2 (by omega) (by omega))).mono ?_; rintro e w' ⟨rfl, rfl⟩)
      gi_region_with_o (first
        | (refine ⟨trivial, ?_⟩; gi_at_call 46; refine (HA.out wr.drew rfl).mono ?_; rintro e w' ⟨rfl, d, rfl⟩; obtain ⟨fn, tmps, assign, body, hy, hR⟩ := HY.out (1 + d))
        | (refine hR.mono ?_; clear hR; rintro e W3 ⟨rfl, hp⟩)
        | fail)
      all_goals
        have HP1 := Lib.hid hp
        clear hp
        gi_wp2
        go_roundw
        case rel => exact ⟨k + 1, by go_num, by omega, by omega, HP1⟩
        case measure => simp [intOf]; omega
    · have he : k = zs.length := by omega
      have hle : zs.length ≤ 4096 := hz4
      have HJ := Lib.hid hJp
      have HP := Lib.hid hpl
      clear hJp hpl hkm hQ
      subst he
      gi_wp2_with (refine ⟨trivial, ?_⟩; gi_at_call 45; refine (callsIn_wide.2 (has_hi q zs.length zs.length _ c2 (by omega) (by omega))).mono ?_; rintro e w' ⟨rfl, rfl⟩)
      go_end0
      exact ⟨⟨_, rfl⟩, pre, HP.out, HJ.out⟩

theorem head_map {w : World} {q lim : Nat} {zs : List Int} {S : Nat → Prop} (h : Qu IsI 84 3 w q lim (zs.map (Value.int .i64)) S) :
    Calls Try.prog 39 #[.pointer (some ⟨q, 0, none⟩)] w fun e w' => e = .returned (.tuple #[.int .i64 (zs.getD 0 0), .bool (decide (0 < zs.length))]) ∧ Below w.heap.size w w' := by
  have A := at_map h 0
  have e1 : (if (0 : Int) ≤ 0 then zs[(0 : Int).toNat]?.getD 0 else 0) = zs.getD 0 0 := by simp [List.getD]
  have e2 : decide ((0 : Int) ≤ 0 ∧ (0 : Int) < (zs.length : Int)) = decide (0 < zs.length) := by simp
  rw [e1, e2] at A
  obtain ⟨y, hy⟩ : ∃ y, y = zs.getD 0 0 := ⟨_, rfl⟩
  obtain ⟨b, hb⟩ : ∃ b, b = decide (0 < zs.length) := ⟨_, rfl⟩
  rw [← hy, ← hb] at A ⊢
  have HA := Lib.hid A
  clear A h hy hb e1 e2
  go_enter Try.func39, Try.ntmps39
  go_wp2_with fail
  refine HA.out.mono ?_
  rintro e w1 ⟨rfl, hb⟩
  have HB := Lib.hid hb
  clear hb
  go_wp2_with fail
  go_ret2
  exact ⟨rfl, HB.out⟩

/-- The boxes of alike. -/
structure AB (w : World) (q lim n c : Nat) (a : Option Addr) (W : World) : Prop where
  below : Below w.heap.size w W
  m : W.heap[w.heap.size]? = some (.cells #[.int .i64 (lim : Int), .slice a n c] 56 (0, 0))
  r : W.heap[w.heap.size + 1]? = some (.cells #[.bool false] 4 (0, 0))
  nb : W.heap[w.heap.size + 2]? = some (.cells #[.int .i64 (n : Int)] 3 (0, 0))

theorem AB.new (w : World) (q lim n c : Nat) (a : Option Addr) : AB w q lim n c a (((w.alloc (.cells #[.int .i64 (lim : Int), .slice a n c] 56)).alloc (.cells #[.bool false] 4)).alloc (.cells #[.int .i64 (n : Int)] 3)) := by
  have up : ∀ (W : World) (o : Obj) {k : Nat} {o' : Obj}, W.heap[k]? = some o' → (W.alloc o).heap[k]? = some o' := fun W o k o' h => blk_below ((Below.refl _ W).alloc (Nat.le_refl _) o) h
  have h0 := World.alloc_heap_new w (.cells #[.int .i64 (lim : Int), .slice a n c] 56)
  have h1 := World.alloc_heap_new (w.alloc (.cells #[.int .i64 (lim : Int), .slice a n c] 56)) (.cells #[.bool false] 4)
  have h2 := World.alloc_heap_new ((w.alloc (.cells #[.int .i64 (lim : Int), .slice a n c] 56)).alloc (.cells #[.bool false] 4)) (.cells #[.int .i64 (n : Int)] 3)
  simp only [World.size_alloc] at h1 h2
  exact ⟨(((Below.refl _ w).alloc (Nat.le_refl _) _).alloc (by simp) _).alloc (by simp [World.size_alloc]; omega) _, up _ _ (up _ _ h0), up _ _ h1, h2⟩
section
variable {w W W' : World} {q lim n c : Nat} {a : Option Addr}
theorem AB.call (h : AB w q lim n c a W) (hb : Below W.heap.size W W') : AB w q lim n c a W' := ⟨below_call h.below (Nat.le_refl _) hb, blk_below hb h.m, blk_below hb h.r, blk_below hb h.nb⟩
theorem AB.drew (h : AB w q lim n c a W) : AB w q lim n c a W.drew := ⟨Below.drew h.below, h.m, h.r, h.nb⟩
theorem AB.m0 (h : AB w q lim n c a W) : W.cell? ⟨w.heap.size, 0, none⟩ = some (.int .i64 (lim : Int)) := by simp [World.cell?, h.m]
theorem AB.m1 (h : AB w q lim n c a W) : W.cell? ⟨w.heap.size, 1, none⟩ = some (.slice a n c) := by simp [World.cell?, h.m]
theorem AB.r0 (h : AB w q lim n c a W) : W.cell? ⟨w.heap.size + 1, 0, none⟩ = some (.bool false) := by simp [World.cell?, h.r]
theorem AB.rf (h : AB w q lim n c a W) : W.frozen? ⟨w.heap.size + 1, 0, none⟩ = false := by simp [World.frozen?, h.r]
theorem AB.n0 (h : AB w q lim n c a W) : W.cell? ⟨w.heap.size + 2, 0, none⟩ = some (.int .i64 (n : Int)) := by simp [World.cell?, h.nb]
end
end Go.Proofs.Ytahaclglkbgpcaa
