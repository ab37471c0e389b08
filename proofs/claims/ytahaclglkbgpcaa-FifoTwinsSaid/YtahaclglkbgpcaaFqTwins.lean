/- tithelaw04.FifoTwins, by contract. -/
import Derived.Deep.RegionWith
import Derived.Deep.AppendLies
import Derived.Test.YtahaclglkbgpcaaFqT6
set_option linter.unusedVariables false
set_option linter.unusedSimpArgs false
namespace Go.Proofs.Ytahaclglkbgpcaa
open Go.RowKit Go.Shelf
set_option maxRecDepth 100000

/-- The first k of the row, as cells. -/
def rowOf (zs : List Int) (k : Nat) : List Value := (zs.take k).map (Value.int .i64)
theorem rowOf_len (zs : List Int) {k : Nat} (h : k ≤ zs.length) : (rowOf zs k).length = k := by simp [rowOf]; omega
theorem rowOf_succ (zs : List Int) {k : Nat} (h : k < zs.length) : rowOf zs k ++ [.int .i64 (zs.getD k 0)] = rowOf zs (k + 1) := by
  have e : zs.getD k 0 = zs[k] := by simp [List.getD, h]
  rw [e]
  simp only [rowOf]
  rw [List.take_succ_eq_append_getElem h, List.map_append]
  rfl

/-- The last loop's invariant holds at its start. -/
theorem tj_start {v x : Int} {w : World} {q qb lim mb : Nat} {vs : List Value} {W : World} (h : TW v w q qb lim vs W) (hm : W.heap[mb]? = some (.cells #[.int .i64 0] 3 (0, 0))) (hlo : w.heap.size + 2 ≤ mb ∧ mb ≠ qb) (hap : ∀ S, Qu IsI 84 3 W q lim vs S → ∀ k, S k → k ≠ mb) : TJ v x w q qb lim vs mb W.heap.size [] (W.alloc (.cells #[.pointer (some ⟨q, 0, none⟩)] 23)) := by
  have hbA : Below W.heap.size W (W.alloc (.cells #[.pointer (some ⟨q, 0, none⟩)] 23)) := (Below.refl _ _).alloc (Nat.le_refl _) _
  have hml := (Array.getElem?_eq_some_iff.1 hm).1
  obtain ⟨S, h1, h2⟩ := h.ex
  have e : behind vs x [] = vs := by simp [behind]
  refine ⟨by rw [e]; exact h.call hbA, blk_below hbA hm, World.alloc_heap_new _ _, ⟨hlo.1, hlo.2, by omega⟩, S, by rw [e]; exact h1.below hbA, fun k hk => ⟨hap S h1 k hk, by have := h1.lt k hk; omega⟩⟩

theorem isI_map {zs : List Int} : ∀ u ∈ zs.map (Value.int .i64), IsI u := by
  intro u hu
  obtain ⟨z, _, rfl⟩ := List.mem_map.1 hu
  exact ⟨z, rfl⟩

theorem TP.pushz {v : Int} {w : World} {q qb lim : Nat} {vt : List Value} {tb : Nat} {W : World} {zs : List Int} (h : TP v w q qb lim (zs.map (Value.int .i64)) vt tb W) (x : Int) (hm : zs.length < lim) :
    Calls Try.prog 11 #[.pointer (some ⟨q, 0, none⟩), .int .i64 x] W fun e W' => e = .returned .nilIface ∧ TP v w q qb lim ((zs ++ [x]).map (Value.int .i64)) vt tb W' := by
  have := h.push x (by simpa using hm)
  rw [show zs.map (Value.int .i64) ++ [.int .i64 x] = (zs ++ [x]).map (Value.int .i64) by simp] at this
  exact this

theorem same_list {w W : World} {B n : Nat} {a a9 : Option Addr} {c9 : Nat} {zs : List Int} (hown : W.ownsRow B 3 1 (.slice a9 n c9) n (zs.map (Value.int .i64))) (hn : n = zs.length)
    (hc : zs = [] ∨ ∃ b o, a = some ⟨b, o, none⟩ ∧ ∀ i, i < n → w.cell? ⟨b, o + i, none⟩ = some (.int .i64 (zs.getD i 0))) (hb : Below w.heap.size w W) (cap : Nat) (hm : n ≤ 100 := by omega) :
    Calls Try.prog 19 #[.slice a9 n c9, .slice a n cap] W fun e W' => e = .returned (.bool true) ∧ Below W.heap.size W W' := by
  refine same_t a9 a n c9 cap (fun i => zs.getD i 0) W (by omega) ?_ ?_
  · by_cases h0 : n = 0
    · exact .inl h0
    · obtain ⟨g, c, e, _⟩ := hown.form (by omega)
      simp only [Value.slice.injEq, true_and] at e
      obtain ⟨rfl, rfl⟩ := e
      refine .inr ⟨g, 0, rfl, fun i hi => ?_⟩
      rw [Nat.zero_add, hown.cellAt i (by omega)]
      have : i < zs.length := by omega
      simp [List.getD, this]
  · rcases hc with h | ⟨b, o, e, hcc⟩
    · subst h; exact .inl (by simpa using hn)
    · exact .inr ⟨b, o, e, fun i hi => by rw [hb.cell (p := ⟨b, o + i, none⟩) (cell_lt (hcc i hi))]; exact hcc i hi⟩

theorem cell_two_new (w : World) (x y : Value) (t : TypeId) : ∀ (j : Nat) (u : Value), [x, y][j]? = some u → (w.alloc (.cells #[x, y] t)).cell? (Addr.add ⟨w.heap.size, 0, none⟩ j) = some u := by
  intro j u hj
  match j, hj with
  | 0, hj => simp at hj; subst hj; show World.cell? _ ⟨w.heap.size, 0 + 0, none⟩ = _; rw [World.cell?_alloc_at _ _ _ _ (by simp)]; rfl
  | 1, hj => simp at hj; subst hj; show World.cell? _ ⟨w.heap.size, 0 + 1, none⟩ = _; rw [World.cell?_alloc_at _ _ _ _ (by simp)]; rfl

set_option maxHeartbeats 10000000 in
theorem twins_ok (a : Option Addr) (zs : List Int) (cap : Nat) (v : Int) (w : World) (hm : zs.length ≤ maxLen) (hc : zs = [] ∨ ∃ b o, a = some ⟨b, o, none⟩ ∧ ∀ i, i < zs.length → w.cell? ⟨b, o + i, none⟩ = some (.int .i64 (zs.getD i 0))) :
    Calls Try.prog 4 #[.slice a zs.length cap, .int .i64 v] w fun e w' => e = .returned (.bool true) ∧ Below w.heap.size w w' := by
  unfold maxLen at hm
  obtain ⟨len, hlen⟩ : ∃ len, len = zs.length := ⟨_, rfl⟩
  rw [← hlen] at hm hc ⊢
  have HL := Lib.hid hlen
  have HC := Lib.hid hc
  clear hc hlen
  refine (callsIn_wide (n := 6)).1 ?_
  refine callsIn_of_wp_marks Try.func4 rfl trivial ?_ rfl
  simp only [Try.ntmps4, List.size_toArray, List.length_cons, List.length_nil, Nat.reduceAdd, Nat.reduceSub, Array.replicate_succ, Array.replicate_zero, List.push_toArray, List.append_toArray, List.nil_append, List.cons_append]
  refine wpIn_wide.2 ?_
  refine wp_calm ?_
  by_cases hbig : 100 < len
  · have t0 : decide ((100 : Int) < (len : Int)) = true := by simp; omega
    go_wp2_with fail
    have hB := ((Below.refl _ w).alloc (Nat.le_refl _) (.cells #[.int .i64 v] 3)).alloc (by simp) (.cells #[.bool false] 4)
    have hRc : ((w.alloc (.cells #[.int .i64 v] 3)).alloc (.cells #[.bool false] 4)).cell? ⟨w.heap.size + 1, 0, none⟩ = some (.bool false) := by rw [World.cell?_alloc_at _ _ _ _ (by simp)]; rfl
    have hRf : ((w.alloc (.cells #[.int .i64 v] 3)).alloc (.cells #[.bool false] 4)).frozen? ⟨w.heap.size + 1, 0, none⟩ = false := by simp only [frozen?_alloc_cells]; simp [World.frozen?]
    refine (works_ok _).mono ?_
    rintro e w1 ⟨rfl, hb⟩
    have c1 := keep hb hRc
    have f1 := keepf hb (by simp) hRf
    have hB1 := below_call hB (by simp) hb
    have HB1 := Lib.hid hB1
    clear hB1 hb hRc hRf hB
    go_wp2_with fail
    have hc5 : (w1.setCell ⟨w.heap.size + 1, 0, none⟩ (.bool true)).cell? ⟨w.heap.size + 1, 0, none⟩ = some (.bool true) := World.cell?_setCell_same' _ _ _ (by rw [c1]; rfl)
    exact ⟨.bool true, by simp [results, Try.f4, go_sem, hc5], rfl, HB1.out.setCell (p := ⟨w.heap.size + 1, 0, none⟩) (by simp) _⟩
  · have t0 : decide ((100 : Int) < (len : Int)) = false := by simp; omega
    go_wp2_with fail
    obtain ⟨W0, hW0⟩ : ∃ x, x = (w.alloc (.cells #[.int .i64 v] 3)).alloc (.cells #[.bool false] 4) := ⟨_, rfl⟩
    rw [← hW0]
    have hs0 : W0.heap.size = w.heap.size + 2 := by rw [hW0]; simp
    have hB0 : Below w.heap.size w W0 := by rw [hW0]; exact ((Below.refl _ w).alloc (Nat.le_refl _) _).alloc (by simp) _
    have hv0 : W0.heap[w.heap.size]? = some (.cells #[.int .i64 v] 3 (0, 0)) := by rw [hW0]; exact blk_below ((Below.refl _ _).alloc (Nat.le_refl _) _) (World.alloc_heap_new w _)
    have hr0 : W0.heap[w.heap.size + 1]? = some (.cells #[.bool false] 4 (0, 0)) := by rw [hW0]; have h := World.alloc_heap_new (w.alloc (.cells #[.int .i64 v] 3)) (.cells #[.bool false] 4); rw [World.size_alloc] at h; exact h
    clear hW0
    obtain ⟨lim, hlim⟩ : ∃ lim, lim = len + 3 := ⟨_, rfl⟩
    have t1 : ((len : Int) + 3) = (lim : Int) := by omega
    rw [t1]
    refine (new_ok lim W0 (by omega) (by omega)).mono ?_
    rintro e W1 ⟨rfl, Q1, B1⟩
    obtain ⟨q, hq⟩ : ∃ q, q = W0.heap.size := ⟨_, rfl⟩
    rw [← hq] at Q1 ⊢
    obtain ⟨qb, hqb⟩ : ∃ qb, qb = W1.heap.size := ⟨_, rfl⟩
    have hql := Q1.lt _ Q1.self
    have T1 : TW v w q qb lim [] (W1.alloc (.cells #[.pointer (some ⟨q, 0, none⟩)] 23)) := by
      have hbA : Below W1.heap.size W1 (W1.alloc (.cells #[.pointer (some ⟨q, 0, none⟩)] 23)) := (Below.refl _ _).alloc (Nat.le_refl _) _
      have hs1 := B1.size
      exact ⟨below_call (below_call hB0 (Nat.le_refl _) B1) (Nat.le_refl _) hbA, blk_below hbA (blk_below B1 hv0), blk_below hbA (blk_below B1 hr0), by rw [hqb]; exact World.alloc_heap_new _ _, by omega, _, Q1.below hbA, fun k hk => by have : k = q := hk; omega⟩
    have HT1 := Lib.hid T1
    have HQB := Lib.hid hqb
    have HLim := Lib.hid hlim
    have hl4 : lim ≤ 4096 := by omega
    have hl3 : len + 3 ≤ lim := by omega
    clear T1 Q1 B1 hB0 hv0 hr0 hs0 hql hq hqb hlim t1
    go_wp2_with fail
    rw [← HQB.out]
    obtain ⟨W2, hW2⟩ : ∃ x, x = W1.alloc (.cells #[.pointer (some ⟨q, 0, none⟩)] 23) := ⟨_, rfl⟩
    rw [← hW2] at HT1 ⊢
    clear hW2
    go_loopw [7] (fun i wr => ∃ k : Nat, k ≤ len ∧ i = .int .i64 k ∧ Hid (TW v w q qb lim (rowOf zs k) wr)) (fun i _ => len - (intOf i).toNat)
    case atStart => exact ⟨0, Nat.zero_le _, rfl, HT1⟩
    case round =>
      obtain ⟨k, hk, rfl, HT⟩ := hrel
      have cq := HT.out.cq
      have cv := HT.out.cv
      have hkz : k ≤ zs.length := by have := HL.out; omega
      by_cases hlt : k < len
      · obtain ⟨b, o, rfl, hcc⟩ : ∃ b o, a = some ⟨b, o, none⟩ ∧ ∀ i, i < len → w.cell? ⟨b, o + i, none⟩ = some (.int .i64 (zs.getD i 0)) := by
          rcases HC.out with h | h
          · have := HL.out; rw [h] at this; simp at this; omega
          · exact h
        obtain ⟨x, hx⟩ : ∃ x, x = zs.getD k 0 := ⟨_, rfl⟩
        have hcell := hcc k hlt
        clear hcc
        rw [← HT.out.below.cell (p := ⟨b, o + k, none⟩) (cell_lt hcell), ← hx] at hcell
        have P : ∀ W : World, TW v w q qb lim (rowOf zs k) W → Calls Try.prog 11 #[.pointer (some ⟨q, 0, none⟩), .int .i64 x] W fun e W' => e = .returned .nilIface ∧ TW v w q qb lim (rowOf zs (k + 1)) W' := fun W T => by
          have P := T.push x (by rw [rowOf_len _ hkz]; omega)
          rw [hx, rowOf_succ _ (by have := HL.out; omega), ← hx] at P
          exact P.mono fun e W' h => ⟨h.1, h.2.1⟩
        have HP := Lib.hid P
        clear P hx
        go_wp2_with fail
        go_region_with (go_at_call 11; refine (HP.out _ (by first | exact HT.out | exact HT.out.drew1)).mono ?_; rintro e w2 ⟨rfl, T2⟩; have HT2 := Lib.hid T2; clear T2)
        all_goals
          go_wp2_with fail
          go_roundw
          case rel => exact ⟨k + 1, by omega, by go_num, HT2⟩
          case measure => simp [intOf]; omega
      · obtain rfl : k = len := by omega
        have hlen : (rowOf zs k).length = k := rowOf_len _ hkz
        clear hkz hk
        have e0 : rowOf zs k = zs.map (Value.int .i64) := by unfold rowOf; rw [HL.out, List.take_length]
        rw [e0] at HT
        have HTW := Lib.hid (HT.out.twin (by simp [IsI]))
        clear e0 hlen
        go_wp2_with fail
        refine HTW.out.mono ?_
        rintro e w3 ⟨tb, rfl, T3⟩
        have HT3 := Lib.hid T3
        have cq3 := T3.tw.cq
        clear T3 HTW cq cv
        go_wp2_with fail
        go_cut [59] from 13 to 115 (fun v59 wx => v59 = .bool false ∧ Hid (TP v w q qb lim (zs.map (Value.int .i64)) (zs.map (Value.int .i64)) tb wx))
        case first =>
          go_region_with (first
            | (go_at_call 17; refine (TP.same (by first | with_reducible exact HT3.out | with_reducible exact HT3.out.drew)).mono ?_; rintro e w4 ⟨rfl, hb4⟩; have HT4 := Lib.hid (TP.call (vq := zs.map (Value.int .i64)) (vt := zs.map (Value.int .i64)) (by first | with_reducible exact HT3.out | with_reducible exact HT3.out.drew) hb4); have cq4 := HT4.out.tw.cq; clear hb4)
            | (go_at_call 18; (with_reducible refine Calls.mono HT4.out.limq ?_); rintro e w' ⟨rfl, rfl⟩)
            | (go_at_call 18; (with_reducible refine Calls.mono HT4.out.limt ?_); rintro e w' ⟨rfl, rfl⟩))
          all_goals go_wp2_with fail
          all_goals go_meet
          all_goals exact ⟨by first | rfl | simp, HT4⟩
        case rest =>
          obtain ⟨rfl, HT5⟩ := hcut
          clear HT3
          have cq5 := HT5.out.tw.cq
          have HLs := Lib.hid HT5.out.list
          go_wp2_with fail
          refine HLs.out.mono ?_
          clear HLs
          rintro e w6 ⟨a2, c2, rfl, hown, hb6⟩
          rw [← HL.out] at hown ⊢
          obtain ⟨m0, hm0⟩ : ∃ m0, m0 = wc.heap.size := ⟨_, rfl⟩
          rw [← hm0] at hown hb6
          have HM0 := Lib.hid hm0
          have HO := Lib.hid hown
          have HB6 := Lib.hid hb6
          clear hown hb6 hm0 cq5
          go_wp2_with fail
          go_loopw [10] (fun i wr => ∃ j : Nat, j ≤ k ∧ i = .int .i64 j ∧ Hid (∃ xs, wr.ownsRow m0 3 1 (.slice a2 k c2) k xs) ∧ Hid (Below m0 wc wr)) (fun i _ => k - (intOf i).toNat)
          case atStart => exact ⟨0, Nat.zero_le _, rfl, Lib.hid ⟨_, HO.out⟩, HB6⟩
          case round =>
            obtain ⟨j, hj, rfl, hO, hB⟩ := hrel
            have HT6 : Hid (TP v w q qb lim (zs.map (Value.int .i64)) (zs.map (Value.int .i64)) tb wr) := Lib.hid (HT5.out.call (by rw [← HM0.out]; exact hB.out))
            have cv6 := HT6.out.tw.cv
            by_cases hlt : j < k
            · obtain ⟨xs, hown⟩ := hO.out
              obtain ⟨g, c3, e3, hge, hgl⟩ := hown.form (by omega)
              simp only [Value.slice.injEq, true_and] at e3
              obtain ⟨rfl, rfl⟩ := e3
              have hx := hown.cellAt j (by omega)
              have hl := hown.1
              rw [List.getElem?_eq_getElem (by omega)] at hx
              have hfz := hown.frozenAt j
              obtain ⟨r1, r2⟩ := hown.stored j (.int .i64 v)
              have HR := Lib.hid r1
              clear r1 r2 hown
              go_wp2
              go_roundw
              case rel => exact ⟨j + 1, by omega, by go_num, Lib.hid ⟨_, HR.out⟩, Lib.hid (hB.out.setCell (p := ⟨g, j, none⟩) hge _)⟩
              case measure => simp [intOf]; omega
            · obtain rfl : j = k := by omega
              obtain ⟨i0, hi, hz0, hz1, hz2⟩ := info_parts info_int
              obtain ⟨xs, hown⟩ := hO.out
              have hbw : m0 ≤ wr.heap.size := by rw [HM0.out]; exact hB.out.size
              have hj100 : j ≤ 100 := by omega
              have HOW := Lib.hid hown
              clear hown hO
              go_wp2_with (first
                | (at_builtin; refine wpList_append_lies _ rfl (.tmp 72) (.tmp 75) 32 rfl m0 3 i0 (.int .i64 0) 1 8 Try.underlying32 hi hz0 hz1 hz2 rfl (by decide) _ j xs rfl (HOW.out.alloc _) ⟨wr.heap.size, 0, none⟩ 2 2 [.int .i64 v, .int .i64 v] rfl rfl ?c1 ?c2 ?c3 ?c4 ?c5 ?c6 _ rfl ?_)
                | fail)
              case c1 => exact cell_two_new _ _ _ _
              case c2 => intro u hu; simp at hu; subst hu; rfl
              case c3 => omega
              case c4 => unfold maxLen; omega
              case c5 => omega
              case c6 => simp; omega
              intro g' cap' w7 hown1 hgrow1 hat1 hlt1
              have hB7 : Below m0 wc w7 := below_grown (by rw [HM0.out]; exact Nat.le_refl _) (hB.out.alloc hbw _) HOW.out hgrow1
              have HT7 : Hid (TP v w q qb lim (zs.map (Value.int .i64)) (zs.map (Value.int .i64)) tb w7) := Lib.hid (HT5.out.call (by rw [← HM0.out]; exact hB7))
              clear hB7 hown1 hgrow1 hat1 hlt1 HOW hi hz0 hz1 hz2 HT6 cv6 hB hbw
              have cq7 := HT7.out.tw.cq
              have cv7 := HT7.out.tw.cv
              have hj2 : zs.length < lim := by have := HL.out; omega
              have HLT : ∀ W, TP v w q qb lim ((zs ++ [v]).map (Value.int .i64)) (zs.map (Value.int .i64)) tb W → Calls Try.prog 12 #[.pointer (some ⟨tb, 0, none⟩)] W fun e W' => e = .returned (.int .i64 (j : Int)) ∧ W = W' := fun W T => by
                have := T.lent
                rw [List.length_map, ← HL.out] at this
                exact this
              have HLQ : ∀ W, TP v w q qb lim ((zs ++ [v]).map (Value.int .i64)) (zs.map (Value.int .i64)) tb W → Calls Try.prog 12 #[.pointer (some ⟨q, 0, none⟩)] W fun e W' => e = .returned (.int .i64 ((j : Int) + 1)) ∧ W = W' := fun W T => by
                have := T.lenq
                rw [List.length_map, List.length_append, ← HL.out] at this
                exact this
              have hwr : IntKind.i64.wrap ((j : Int) + 1) = (j : Int) + 1 := by simp [IntKind.wrap, IntKind.bits, IntKind.signed]; omega
              have HHLT := Lib.hid HLT
              have HHLQ := Lib.hid HLQ
              clear HLT HLQ
              go_wp2_with fail
              go_cut [100] from 13 to 115 (fun v100 wx => v100 = .bool false ∧ Hid (TP v w q qb lim ((zs ++ [v]).map (Value.int .i64)) (zs.map (Value.int .i64)) tb wx))
              case first =>
                go_region_with (first
                  | (go_at_call 11; refine (TP.pushz (by first | with_reducible exact HT7.out | with_reducible exact HT7.out.drew) v hj2).mono ?_; rintro e w8 ⟨rfl, T8⟩; have HT8 := Lib.hid T8; clear T8; have cq8 := HT8.out.tw.cq)
                  | (go_at_call 14; (with_reducible refine Calls.mono HT8.out.listt ?_); rintro e w9 ⟨a9, c9, rfl, hown9, hb9⟩; have HT9 := Lib.hid (HT8.out.call hb9); have cq9 := HT9.out.tw.cq; rw [← HL.out] at hown9; rw [← HL.out]; have HSL := Lib.hid (same_list hown9 HL.out HC.out HT9.out.tw.below cap); clear hown9 hb9)
                  | (go_at_call 19; (with_reducible refine Calls.mono HSL.out ?_); rintro e w10 ⟨rfl, hb10⟩; have HT10 := Lib.hid (HT9.out.call hb10); have cq10 := HT10.out.tw.cq; clear hb10)
                  | (go_at_call 12; (with_reducible refine Calls.mono (HHLT.out _ HT10.out) ?_); rintro e w' ⟨rfl, rfl⟩)
                  | (go_at_call 12; (with_reducible refine Calls.mono (HHLQ.out _ HT10.out) ?_); rintro e w' ⟨rfl, rfl⟩)
                  | (go_at_call 17; refine (TP.differ HT10.out (by simp)).mono ?_; rintro e w11 ⟨rfl, hb11⟩; have HT11 := Lib.hid (HT10.out.call hb11); have cq11 := HT11.out.tw.cq; clear hb11))
                all_goals go_wp2_with fail
                all_goals go_meet
                all_goals exact ⟨by first | rfl | simp, HT11⟩
              case rest =>
                obtain ⟨rfl, HT12⟩ := hcut
                clear HT7 cq7 cv7 HHLT HHLQ
                have cq12 := HT12.out.tw.cq
                go_wp2_with fail
                refine HT12.out.clear.mono ?_
                rintro e w13 ⟨⟨nn, rfl⟩, T13⟩
                have HT13 := Lib.hid T13
                clear T13 HT12 cq12
                have hbA : Below w13.heap.size w13 (w13.alloc (.cells #[.int .i64 0] 3)) := (Below.refl _ _).alloc (Nat.le_refl _) _
                have HTA := Lib.hid (HT13.out.call hbA)
                have hmb : (w13.alloc (.cells #[.int .i64 0] 3)).heap[w13.heap.size]? = some (.cells #[.int .i64 0] 3 (0, 0)) := World.alloc_heap_new _ _
                have cqA := HTA.out.cq
                obtain ⟨WA, hWA⟩ : ∃ x, x = w13.alloc (.cells #[.int .i64 0] 3) := ⟨_, rfl⟩
                obtain ⟨mb, hmbe⟩ : ∃ x, x = w13.heap.size := ⟨_, rfl⟩
                have HM1 := Lib.hid hmb
                have HLO : Hid ((w.heap.size + 2 ≤ w13.heap.size ∧ w13.heap.size ≠ qb) ∧ ∀ S, Qu IsI 84 3 (w13.alloc (.cells #[.int .i64 0] 3)) q lim ((zs ++ [v]).map (Value.int .i64)) S → ∀ k, S k → k ≠ w13.heap.size) := Lib.hid (by
                  have h1 := HT13.out.qlt
                  have h2 := HT13.out.lo
                  refine ⟨⟨by omega, by omega⟩, fun S Q k hk => ?_⟩
                  obtain ⟨S0, q0, _⟩ := HT13.out.ex
                  have := q0.lt k (Q.uniq (q0.below hbA) hk)
                  omega)
                clear hbA hmb
                go_wp2_with fail
                rw [← hWA, ← hmbe]
                rw [← hWA] at HTA cqA HM1 HLO
                rw [← hmbe] at HM1 HLO
                clear hWA hmbe
                refine (callsIn_wide.1 (all_in 6 (some ⟨q, 0, none⟩) WA)).mono ?_
                rintro e w14 ⟨rfl, rfl⟩
                go_wp2_with fail
                have TJ0 := tj_start (x := wrap64 (v + 1)) HTA.out HM1.out HLO.out.1 HLO.out.2
                have HTJ := Lib.hid TJ0
                clear TJ0 HTA HM1 cqA
                refine (wpIn_wide (n := 6)).1 ?_
                refine twins_range (vs := (zs ++ [v]).map (Value.int .i64)) (by simp; have := HLim.out; have := HL.out; omega) isI_map (by simp) HTJ.out (Lib.hid ?_)
                intro D W15 hD hxs hD15
                dsimp only
                obtain ⟨ys, hys, hTJ⟩ := hxs
                have hyl : ys.length = j + 2 := by rw [hys]; simp; have := HL.out; omega
                have hvl : ((zs ++ [v]).map (Value.int .i64)).length = j + 1 := by simp; have := HL.out; omega
                clear hys
                go_wp2_with fail
                refine twins_ret hj100 hyl hvl hTJ hD15 (Lib.hid ?_)
                intro W16 hc16 hb16 hD16 n118 n119 n120 n121 n122 n123 n124 n125 n126 n127 n128 n129 n130 n131 n132 n133 n134 n135 n136 n137 n138 n139
                dsimp only
                have HC16 := Lib.hid hc16
                have HB16 := Lib.hid hb16
                have HD16 := Lib.hid hD16
                clear hc16 hb16 hD16 hTJ hD15
                go_wp2_with fail
                have hlo2 := HTJ.out.tw.below.size
                refine ⟨by simp, .inl ⟨_, _, rfl, run_takeDeferred HD16.out, ?_⟩⟩
                have hc5 := cell_kept HC16.out (grownBy_putObj' _ D (.deferred none)) (fun r e => by cases e; exact ⟨_, HD16.out, rfl⟩)
                refine ⟨.bool true, ?_, rfl, HB16.out.trans (belowK_b (w := w) (Nat.le_refl _) W16 D _ _ (by omega) HD16.out rfl rfl)⟩
                simp [results, Try.f4, go_sem, hc5]
end Go.Proofs.Ytahaclglkbgpcaa
