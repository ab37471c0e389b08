/- titheref04: Keep, and the closure of tithelaw04.do, by contract. -/
import Derived.Deep.RegionWith
import Derived.Test.YtahaclglkbgpcaaFqR9
set_option linter.unusedVariables false
set_option linter.unusedSimpArgs false
namespace Go.Proofs.Ytahaclglkbgpcaa
open Go.RowKit Go.Shelf
set_option maxRecDepth 100000

/-- Those that a number divides. -/
def divs (b x : Int) : Bool := b != 0 && x.tmod b == 0

theorem do1_ok (Ba : Nat) (b x : Int) (w : World) (hb : w.cell? ⟨Ba, 2, none⟩ = some (.int .i64 b)) :
    Calls Try.prog 65 #[.int .i64 x, .pointer (some ⟨Ba, 0, none⟩)] w fun e w' => e = .returned (.bool (divs b x)) ∧ Below w.heap.size w w' := by
  by_cases h0 : b = 0
  · subst h0
    go_enter Try.func65, Try.ntmps65
    go_wp2_with fail
    refine bodyPost_ret (v := .bool false) ?_ rfl ⟨by simp [divs], Below.refl _ _⟩
    simp [results, Try.results65, go_sem]
  · have t0 : (b == 0) = false := by simpa using h0
    go_enter Try.func65, Try.ntmps65
    go_wp2_with fail
    refine bodyPost_ret (v := .bool (divs b x)) ?_ rfl ⟨rfl, Below.refl _ _⟩
    simp [results, Try.results65, go_sem, divs]

set_option maxHeartbeats 1000000 in
theorem rkeep_ok (lim n c B : Nat) (b : Int) (a : Option Addr) (zs : List Int) (w : World) (h : RL w B a n c zs) (hn : n ≤ 4096) :
    Calls Try.prog 64 #[.agg #[.int .i64 (lim : Int), .slice a n c], .int .i64 b] w fun e w' => ∃ a' m c', e = .returned (.tuple #[.agg #[.int .i64 (lim : Int), .slice a' m c'], .int .i64 ((n - m : Nat) : Int)]) ∧ m = (zs.filter (divs b)).length ∧ RL w' w.heap.size a' m c' (zs.filter (divs b)) ∧ Below w.heap.size w w' := by
  have HX := Lib.hid (Box2.new w lim n c a)
  obtain ⟨i0, hi, hz0, hz1, hz2⟩ := info_parts info_int
  have HR := Lib.hid h
  clear h
  go_enter Try.func64, Try.ntmps64
  go_wp2_with fail
  obtain ⟨W0, hW0⟩ : ∃ x, x = ((w.alloc (.cells #[.int .i64 (lim : Int), .slice a n c] 56)).alloc (.cells #[.int .i64 0, .slice none 0 0] 56)) := ⟨_, rfl⟩
  rw [← hW0] at HX ⊢
  clear hW0
  go_loopw [6, 7] (fun l i wr => ∃ k : Nat, k ≤ n ∧ i = .int .i64 k ∧ ∃ m a' c', l = .slice a' m c' ∧ m ≤ k ∧ (m = 0 → a' = none ∧ c' = 0) ∧ Hid (wr.ownsRow (w.heap.size + 2) 3 1 (.slice a' m c') m (((zs.take k).filter (divs b)).map (Value.int .i64))) ∧ Hid (Box2 w lim n c a wr)) (fun _ i _ => n - (intOf i).toNat)
  case atStart => exact ⟨0, Nat.zero_le _, rfl, 0, none, 0, rfl, Nat.le_refl _, (fun _ => ⟨rfl, rfl⟩), Lib.hid (World.ownsRow_nil _ _ _ _), HX⟩
  case round =>
    obtain ⟨k, hk, rfl, m, a', c', rfl, hmk, hm0, hO, hB⟩ := hrel
    have HM0 := Lib.hid hm0
    clear hm0
    have q0 := hB.out.q0
    have q1 := hB.out.q1
    by_cases hlt : k < n
    · obtain ⟨g, c1, e1, hge, hgl⟩ := HR.out.own.form (by omega)
      simp only [Value.slice.injEq, true_and] at e1
      obtain ⟨rfl, rfl⟩ := e1
      have hkz : k < zs.length := by have := HR.out.len; omega
      obtain ⟨x, hx⟩ : ∃ x, x = zs.getD k 0 := ⟨_, rfl⟩
      have hcell : wr.cell? ⟨g, k, none⟩ = some (.int .i64 x) := by
        rw [(owns_below HR.out.own hB.out.below).cellAt k (by omega), hx]
        simp [List.getD, hkz]
      have hts : zs.take (k + 1) = zs.take k ++ [x] := by
        rw [List.take_succ_eq_append_getElem hkz, hx]
        simp [List.getD, hkz]
      have HTS := Lib.hid hts
      have hbw := hB.out.size
      clear hts hx hkz
      have goT : divs b x = true → ((zs.take (k + 1)).filter (divs b)).map (Value.int .i64) = ((zs.take k).filter (divs b)).map (Value.int .i64) ++ [.int .i64 x] := fun h => by rw [HTS.out]; simp [List.filter_append, h]
      have goF : divs b x = false → ((zs.take (k + 1)).filter (divs b)).map (Value.int .i64) = ((zs.take k).filter (divs b)).map (Value.int .i64) := fun h => by rw [HTS.out]; simp [List.filter_append, h]
      have HGT := Lib.hid goT
      have HGF := Lib.hid goF
      clear goT goF
      by_cases h0 : b = 0
      · have hd : divs b x = false := by simp [divs, h0]
        have HR7 : Hid (wr.ownsRow (w.heap.size + 2) 3 1 (.slice a' m c') m (((zs.take (k + 1)).filter (divs b)).map (Value.int .i64))) := Lib.hid (by rw [HGF.out hd]; exact hO.out)
        have t0 : (b == 0) = true := by simpa using h0
        clear hd
        go_wp2_with fail
        go_roundw
        case rel => exact ⟨k + 1, by omega, by go_num, m, _, _, rfl, by omega, HM0.out, HR7, hB⟩
        case measure => simp [intOf]; omega
      · have t0 : (b == 0) = false := by simpa using h0
        by_cases hd : x.tmod b = 0
        · have hdt : divs b x = true := by simp [divs, h0, hd]
          have HXS := Lib.hid (HGT.out hdt)
          have t1 : (x.tmod b == 0) = true := by simpa using hd
          clear hdt
          go_wp2_with (first
            | (at_builtin; refine wpList_append_lies _ rfl (.tmp 27) (.tmp 33) 32 rfl (w.heap.size + 2) 3 i0 (.int .i64 0) 1 8 Try.underlying32 hi hz0 hz1 hz2 rfl (by decide) _ m (((zs.take k).filter (divs b)).map (Value.int .i64)) rfl (hO.out.alloc _) ⟨wr.heap.size, 0, none⟩ 1 1 [.int .i64 x] rfl rfl (cell_one_new _ _ _) (fun u hu => by simp at hu; subst hu; rfl) (by omega) (by unfold maxLen; omega) (by omega) (by simp; omega) _ rfl ?_)
            | fail)
          intro g' cap' w7 hown1 hgrow1 hat1 hlt1
          have HB7 := Lib.hid (hB.out.later (below_grown hbw ((Below.refl _ wr).alloc hbw _) hO.out hgrow1))
          rw [← HXS.out] at hown1
          have HR7 := Lib.hid hown1
          clear hown1 hgrow1 hat1 hlt1
          go_wp2
          go_roundw
          case rel => exact ⟨k + 1, by omega, by go_num, m + 1, _, _, rfl, by omega, (fun h => absurd h (by omega)), HR7, HB7⟩
          case measure => simp [intOf]; omega
        · have hdt : divs b x = false := by simp [divs, hd]
          have HR7 : Hid (wr.ownsRow (w.heap.size + 2) 3 1 (.slice a' m c') m (((zs.take (k + 1)).filter (divs b)).map (Value.int .i64))) := Lib.hid (by rw [HGF.out hdt]; exact hO.out)
          have t1 : (x.tmod b == 0) = false := by simpa using hd
          clear hdt
          go_wp2_with fail
          go_roundw
          case rel => exact ⟨k + 1, by omega, by go_num, m, _, _, rfl, by omega, HM0.out, HR7, hB⟩
          case measure => simp [intOf]; omega
    · obtain rfl : k = n := by omega
      have htk : zs.take k = zs := by rw [HR.out.len, List.take_length]
      rw [htk] at hO
      have hml : m = (zs.filter (divs b)).length := by have := hO.out.1; rw [List.length_map] at this; omega
      have HML := Lib.hid hml
      clear htk hml
      have r0 := hB.out.r0
      have r1 := hB.out.r1
      have f0 := hB.out.rf 0
      have f1 := hB.out.rf 1
      have hwr : IntKind.i64.wrap ((k : Int) - (m : Int)) = (k : Int) - (m : Int) := by simp [IntKind.wrap, IntKind.bits, IntKind.signed]; omega
      have hBd : Box2 w lim k c a wr.drew := hB.out.later (Below.drew (Below.refl _ _))
      go_wp2_with fail
      first
        | go_region_with (fail)
        | fail
      all_goals
        go_wp2_with fail
        have hown9 : ((wr.drew.setCell ⟨w.heap.size + 1, 0, none⟩ (.int .i64 (lim : Int))).setCell ⟨w.heap.size + 1, 1, none⟩ (.slice a' m c')).ownsRow w.heap.size 3 1 (.slice a' m c') m ((zs.filter (divs b)).map (Value.int .i64)) := by
          have h1 := ownsRow_setCell_below (ownsRow_setCell_below (w := wr.drew) hO.out (a := ⟨w.heap.size + 1, 0, none⟩) (by show w.heap.size + 1 < w.heap.size + 2; omega) (.int .i64 (lim : Int))) (a := ⟨w.heap.size + 1, 1, none⟩) (by show w.heap.size + 1 < w.heap.size + 2; omega) (.slice a' m c')
          exact owns_mono h1 (by omega)
        have hb9 := (hBd.below.setCell (p := ⟨w.heap.size + 1, 0, none⟩) (by simp) (.int .i64 (lim : Int))).setCell (p := ⟨w.heap.size + 1, 1, none⟩) (by simp) (.slice a' m c')
        have e0 : ((k : Int) - (m : Int)) = ((k - m : Nat) : Int) := by omega
        refine bodyPost_ret (v := .tuple #[.agg #[.int .i64 (lim : Int), .slice a' m c'], .int .i64 ((k : Int) - (m : Int))]) ?_ rfl ⟨_, _, _, by rw [e0], HML.out, ⟨hown9, HML.out, HM0.out⟩, hb9⟩
        simp [results, Try.results64, go_sem, r0, r1]
end Go.Proofs.Ytahaclglkbgpcaa
