/- Keep, by contract. -/
import Derived.Deep.AppendLies
import Derived.Maps.AppendAt
import Derived.Test.YtahaclglkbgpcaaFqR4
set_option linter.unusedVariables false
set_option linter.unusedSimpArgs false
namespace Go.Proofs.Ytahaclglkbgpcaa
open Go.RowKit Go.Shelf
set_option maxRecDepth 100000

theorem fn_ne (f : FuncId) (u : Value) (w : World) : Sem.run Try.prog (binOp BinOp.eql 92 (Value.func (Fn.func f) #[] #[u]) Value.nilFunc) w = .ok (.bool false) w := by kernel_rfl
attribute [local go_sem high] fn_ne

theorem owns_below {w w' : World} {B : Nat} {e : TypeId} {s n : Nat} {v : Value} {xs : List Value} (h : w.ownsRow B e s v n xs) (hb : Below w.heap.size w w') : w'.ownsRow B e s v n xs :=
  ⟨h.1, h.2.imp id fun ⟨g, c, cur, e, h1, h2, r⟩ => ⟨g, c, cur, e, h1, (hb.block g (Array.getElem?_eq_some_iff.1 h2).1).trans h2, r⟩⟩

theorem QI.reRing {w : World} {q : Nat} {T E : TypeId} {ring : Value} {n cap first many lim m c' B : Nat} {a' : Option Addr} {cells cs : List Value} (h : QI w q T E ring n cap first many lim cells) (hown : w.ownsRow B E 1 (.slice a' m c') m cs) (h0 : m = 0 → a' = none ∧ c' = 0) (hne : ∀ g, (Value.slice a' m c').ownBlock = some g → g ≠ q) (hl : m ≤ lim) :
    QI (((w.setCell ⟨q, 0, none⟩ (.slice a' m c')).setCell ⟨q, 1, none⟩ (.int .i64 0)).setCell ⟨q, 2, none⟩ (.int .i64 (m : Int))) q T E (.slice a' m c') m c' 0 m lim cs := by
  have b0 := heap_setCell_same w q 0 _ T (.slice a' m c') h.blk
  have b1 := heap_setCell_same _ q 1 _ T (.int .i64 0) b0
  have b2 := heap_setCell_same _ q 2 _ T (.int .i64 (m : Int)) b1
  refine ⟨b2, ?_, ?_, Nat.le_refl _, hl, h.lim_le⟩
  · refine ⟨hown.1, hown.2.imp id ?_⟩
    rintro ⟨g, c, cur, e1, hb, hg, h3⟩
    have hgq : g ≠ q := hne g (by rw [e1]; rfl)
    exact ⟨g, c, cur, e1, Nat.zero_le _, by rw [heap_setCell_other _ _ _ _ (by simpa using hgq), heap_setCell_other _ _ _ _ (by simpa using hgq), heap_setCell_other _ _ _ _ (by simpa using hgq)]; exact hg, h3⟩
  · by_cases hm : m = 0
    · obtain ⟨rfl, rfl⟩ := h0 hm
      subst hm
      exact .inl ⟨rfl, rfl, rfl⟩
    · obtain ⟨g, c, e1, _, _⟩ := hown.form (by omega)
      simp only [Value.slice.injEq, true_and] at e1
      obtain ⟨rfl, rfl⟩ := e1
      exact .inr ⟨g, rfl, hne g rfl, by omega⟩

set_option maxHeartbeats 2000000 in
theorem keep_ok {w : World} {q lim : Nat} {zs : List Int} {S : Nat → Prop} (p : Int → Bool) (u : Value) (hcall : ∀ (x : Int) (W : World), Below w.heap.size w W → Calls Try.prog 65 #[.int .i64 x, u] W fun e w' => e = .returned (.bool (p x)) ∧ Below W.heap.size W w')
    (h : Qu IsI 84 3 w q lim (zs.map (Value.int .i64)) S) :
    Calls Try.prog 43 #[.pointer (some ⟨q, 0, none⟩), .func (.func 65) #[] #[u]] w fun e w' => e = .returned (.int .i64 (((zs.length - (zs.filter p).length : Nat)) : Int)) ∧ ∃ S', Qu IsI 84 3 w' q lim ((zs.filter p).map (Value.int .i64)) S' ∧ Chg S w w' ∧ ∀ k, S' k → S k ∨ w.heap.size ≤ k := by
  have L := list_qu _ h
  rw [List.length_map] at L
  have HL := Lib.hid L
  have HQ := Lib.hid h
  have HC := Lib.hid hcall
  have hz : zs.length ≤ 4096 := by have := h.le; have := h.lim_le; rw [List.length_map] at *; omega
  clear L h hcall
  obtain ⟨n, hn⟩ : ∃ n, n = zs.length := ⟨_, rfl⟩
  rw [← hn] at hz
  have HN := Lib.hid hn
  obtain ⟨gn, hgn⟩ : ∃ gn, gn = zs.length - (zs.filter p).length := ⟨_, rfl⟩
  rw [← hgn]
  have HGN := Lib.hid hgn
  clear hgn
  go_enter Try.func43, Try.ntmps43
  go_wp2_with fail
  refine HL.out.mono ?_
  rintro e w1 ⟨v, rfl, hown, hb⟩
  rw [← hn] at hown
  have HO := Lib.hid hown
  have HB := Lib.hid hb
  clear hb hn HL
  obtain ⟨a, c, rfl⟩ : ∃ a c, v = .slice a n c := by
    rcases hown.2 with ⟨rfl, e⟩ | ⟨g, c, cur, rfl, _⟩
    · exact ⟨none, 0, by rw [e]⟩
    · exact ⟨_, _, rfl⟩
  clear hown
  obtain ⟨i0, hi, hz0, hz1, hz2⟩ := info_parts info_int
  have hsz : w.heap.size ≤ w1.heap.size := HB.out.size
  go_wp2_with fail
  go_loopw [5, 16] (fun l i wr => ∃ k : Nat, k ≤ n ∧ i = .int .i64 k ∧ ∃ m a' c', l = .slice a' m c' ∧ m ≤ k ∧ (m = 0 → a' = none ∧ c' = 0) ∧ Hid (wr.ownsRow w1.heap.size 3 1 (.slice a' m c') m (((zs.take k).filter p).map (Value.int .i64))) ∧ Hid (Below w1.heap.size w1 wr)) (fun _ i _ => n - (intOf i).toNat)
  case atStart => exact ⟨0, Nat.zero_le _, rfl, 0, none, 0, rfl, Nat.le_refl _, (fun _ => ⟨rfl, rfl⟩), Lib.hid (World.ownsRow_nil _ _ _ _), Lib.hid (Below.refl _ _)⟩
  case round =>
    obtain ⟨k, hk, rfl, m, a', c', rfl, hmk, hm0, hR, hB⟩ := hrel
    by_cases hlt : k < n
    · obtain ⟨g, c2, e2, hge, hgl⟩ := HO.out.form (by omega)
      simp only [Value.slice.injEq, true_and] at e2
      obtain ⟨rfl, rfl⟩ := e2
      have HM0 := Lib.hid hm0
      clear hm0
      obtain ⟨x, hx⟩ : ∃ x, x = zs.getD k 0 := ⟨_, rfl⟩
      have hcell : w1.cell? ⟨g, k, none⟩ = some (.int .i64 x) := by
        rw [HO.out.cellAt k (by omega), hx]
        have : k < zs.length := by rw [← HN.out]; exact hlt
        simp [List.getD, this]
      have hcell2 : wr.cell? ⟨g, k, none⟩ = some (.int .i64 x) := (hB.out.cell (p := ⟨g, k, none⟩) hgl).trans hcell
      have hts : zs.take (k + 1) = zs.take k ++ [x] := by
        have : k < zs.length := by rw [← HN.out]; exact hlt
        rw [List.take_succ_eq_append_getElem this, hx]
        simp [List.getD, this]
      have HTS := Lib.hid hts
      have HCC := Lib.hid (HC.out x wr (below_call HB.out (Nat.le_refl _) hB.out))
      have hbw := hB.out.size
      clear hts hx hcell
      go_wp2_with fail
      refine HCC.out.mono ?_
      rintro e w2 ⟨rfl, hb2⟩
      have hB2 := Lib.hid (below_call hB.out (Nat.le_refl _) hb2)
      have hR2 := Lib.hid (owns_below hR.out hb2)
      clear HCC hb2
      cases hp : p x with
      | true =>
        have hxs : ((zs.take (k + 1)).filter p).map (Value.int .i64) = ((zs.take k).filter p).map (Value.int .i64) ++ [.int .i64 x] := by rw [HTS.out]; simp [List.filter_append, hp]
        have HXS := Lib.hid hxs
        clear hxs
        have hbw2 : w1.heap.size ≤ w2.heap.size := hB2.out.size
        go_wp2_with (first
          | (at_builtin; refine wpList_append_lies _ rfl (.tmp 23) (.tmp 25) 32 rfl w1.heap.size 3 i0 (.int .i64 0) 1 8 Try.underlying32 hi hz0 hz1 hz2 rfl (by decide) _ m (((zs.take k).filter p).map (Value.int .i64)) rfl (hR2.out.alloc _) ⟨w2.heap.size, 0, none⟩ 1 1 [.int .i64 x] rfl rfl ?c1 ?c2 ?c3 ?c4 ?c5 ?c6 _ rfl ?_)
          | fail)
        case c1 => exact cell_one_new _ _ _
        case c2 => intro u' hu; simp at hu; subst hu; rfl
        case c3 => omega
        case c4 => unfold maxLen; omega
        case c5 => omega
        case c6 => simp; omega
        intro g' cap' w7 hown1 hgrow1 hat1 hlt1
        have hB7 := Lib.hid (below_grown (Nat.le_refl _) (hB2.out.alloc hbw2 _) hR2.out hgrow1)
        rw [← HXS.out] at hown1
        have HR7 := Lib.hid hown1
        clear hown1 hgrow1 hat1 hlt1
        go_wp2
        go_roundw
        case rel => exact ⟨k + 1, by omega, by go_num, m + 1, _, _, rfl, by omega, (fun h => absurd h (by omega)), HR7, hB7⟩
        case measure => simp [intOf]; omega
      | false =>
        have hxs : ((zs.take (k + 1)).filter p).map (Value.int .i64) = ((zs.take k).filter p).map (Value.int .i64) := by rw [HTS.out]; simp [List.filter_append, hp]
        have HR7 : Hid (w2.ownsRow w1.heap.size 3 1 (.slice a' m c') m (((zs.take (k + 1)).filter p).map (Value.int .i64))) := Lib.hid (by rw [hxs]; exact hR2.out)
        clear hxs
        go_wp2
        go_roundw
        case rel => exact ⟨k + 1, by omega, by go_num, m, _, _, rfl, by omega, HM0.out, HR7, hB2⟩
        case measure => simp [intOf]; omega
    · obtain rfl : k = n := by omega
      have htk : zs.take k = zs := by rw [HN.out, List.take_length]
      rw [htk] at hR
      have hml : m = (zs.filter p).length := by have := hR.out.1; rw [List.length_map] at this; omega
      have HML := Lib.hid hml
      have HQr := Lib.hid ((HQ.out.below HB.out).below hB.out)
      have hbt : Below w.heap.size w wr := below_call HB.out (Nat.le_refl _) hB.out
      have HBT := Lib.hid hbt
      have hfin : gn = k - m := by rw [HGN.out, ← HN.out, ← hml]
      have HF := Lib.hid hfin
      clear htk hml hbt hfin
      by_cases hgo : m = k
      · subst hgo
        have hfe : zs.filter p = zs := by
          have := HML.out
          rw [HN.out] at this
          exact List.filter_eq_self.2 (List.length_filter_eq_length_iff.1 this.symm)
        have HFE := Lib.hid hfe
        clear hfe hm0
        go_wp2_with fail
        go_ret
        refine ⟨by rw [HF.out]; simp, S, by rw [HFE.out]; exact HQr.out, (Chg.ofBelow HBT.out _), fun k hk => .inl hk⟩
      · have c1 : ∃ f : Int, wr.cell? ⟨q, 1, none⟩ = some (.int .i64 f) := by obtain ⟨_, _, _, first, _, e1, _⟩ := HQr.out; exact ⟨first, e1.c1⟩
        obtain ⟨f, c1⟩ := c1
        have c0 : ∃ r, wr.cell? ⟨q, 0, none⟩ = some r := by obtain ⟨_, _, _, _, _, e1, _⟩ := HQr.out; exact ⟨_, e1.c0⟩
        obtain ⟨r0, c0⟩ := c0
        have c2 := HQr.out.c2
        rw [List.length_map, ← HN.out] at c2
        have fz : ∀ o, wr.frozen? ⟨q, o, none⟩ = false := by obtain ⟨_, _, _, _, _, e1, _⟩ := HQr.out; exact e1.fz
        have z0 := fz 0
        have z1 := fz 1
        have z2 := fz 2
        have HM0 := Lib.hid hm0
        clear fz hm0
        go_wp2_with fail
        go_ret
        have hsq : S q := HQ.out.self
        have e0 : ((k : Int) - (m : Int)) = ((k - m : Nat) : Int) := by omega
        refine ⟨by show Ending.returned (.int .i64 ((k : Int) - (m : Int))) = _; rw [HF.out, e0], fun j => j = q ∨ (Value.slice a' m c').ownBlock = some j, ?_, ?_, ?_⟩
        · obtain ⟨ring, n', cap', first', cells', e1, _⟩ := HQr.out
          have hmq : m ≤ lim := by
            have h1 := e1.many_le
            have h2 := e1.n_le
            rw [List.length_map, ← HN.out] at h1
            omega
          have hq1 : q < w1.heap.size := Nat.lt_of_lt_of_le (HQ.out.lt q hsq) hsz
          have := e1.reRing hR.out HM0.out (fun g hg => by have := (hR.out.lt g hg).1; omega) hmq
          refine ⟨.slice a' m c', m, c', 0, (zs.filter p).map (Value.int .i64), ?_, ?_, ?_, fun j => Iff.rfl⟩
          · rw [List.length_map, ← HML.out]; exact this
          · intro u' hu
            obtain ⟨z, _, rfl⟩ := List.mem_map.1 hu
            exact ⟨z, rfl⟩
          · rw [List.length_map, ← HML.out]
            apply List.ext_getElem
            · simp [lst]; exact HML.out
            · intro j h1 h2
              have h3 : j < m := by simpa [lst] using h1
              have h4 : j < (zs.filter p).length := by rw [← HML.out]; exact h3
              simp [lst, Nat.mod_eq_of_lt h3, h4]
        · exact (((Chg.ofBelow HBT.out S).setCell ⟨q, 0, none⟩ _ hsq).setCell ⟨q, 1, none⟩ _ hsq).setCell ⟨q, 2, none⟩ _ hsq
        · intro j hj
          rcases hj with rfl | hj
          · exact .inl hsq
          · exact .inr (Nat.le_trans hsz (hR.out.lt j hj).1)
end Go.Proofs.Ytahaclglkbgpcaa
