/- fixed.Fits and the reference's, by contract. -/
import Derived.Test.YtggcahcdhjnemaaDoorSums3
import Derived.LaidEql
set_option linter.unusedVariables false
set_option linter.unusedSimpArgs false
namespace Go.Proofs.YtggcahcdhjnemaaDoor
open Go.RowKit

theorem eqIface (d : Nat) (a b : Int) (w : World) :
    (Op.equalIn (d + 2) 27 (.iface 83 (.int .i64 a)) (.iface 83 (.int .i64 b))).run Tryd.prog w = .ok (a == b) w := by
  obtain ⟨i, hi, hc⟩ : ∃ i, Tryd.prog.info? 83 = some i ∧ i.comparable = true := by
    have h : (Tryd.prog.info? 83).map (fun i => i.comparable) = some true := by kernel_rfl
    obtain ⟨i, h1, h2⟩ := Option.map_eq_some_iff.1 h
    exact ⟨i, h1, h2⟩
  simp [Op.equalIn, run_underlying Tryd.underlying27, run_underlying Tryd.underlying83, typeInfo, hi, hc]
theorem eqIfaceOp (a b : Int) (w : World) : (binOp .eql 27 (.iface 83 (.int .i64 a)) (.iface 83 (.int .i64 b))).run Tryd.prog w = .ok (.bool (a == b)) w := by
  simp only [binOp]
  simp [Op.equal, Op.maxDepth, eqIface 9998 a b w]
theorem eqNilOp (b : Int) (w : World) : (binOp .eql 27 .nilIface (.iface 83 (.int .i64 b))).run Tryd.prog w = .ok (.bool false) w := by
  exact run_eql_iface_nil_left w _ _ Tryd.underlying27
set_option maxRecDepth 100000

theorem ret2_bool {a b : Bool} {v : Value} (h : a = b) : Ending.returned (.tuple #[.bool a, v]) = .returned (.tuple #[.bool b, v]) := by rw [h]

theorem fits_more (a : Option Addr) (zs : List Int) (cap : Nat) (more : Int) (w : World) (h : more < 0) :
    Calls Tryd.prog 44 #[.slice a zs.length cap, .int .i64 more] w fun e w' => e = .returned (.tuple #[.bool false, .iface 83 (.int .i64 1)]) ∧ w = w' := by
  have c1 : decide (more < 0) = true := by simp; omega
  go_enter Tryd.func44, Tryd.ntmps44
  go_wp2
  go_ret2
  exact ⟨rfl, rfl⟩

theorem fits_neg (a : Option Addr) (zs : List Int) (cap : Nat) (more : Int) (w : World) (R : IntRow w a zs) (hm : zs.length ≤ maxLen) (h : hasNeg zs) (h0 : 0 ≤ more) :
    Calls Tryd.prog 44 #[.slice a zs.length cap, .int .i64 more] w fun e w' => e = .returned (.tuple #[.bool false, .iface 83 (.int .i64 1)]) ∧ w = w' := by
  have he := eqIfaceOp
  have c1 : decide (more < 0) = false := by simp; omega
  have HC := Lib.hid (sum_neg a zs cap w R hm h)
  clear R h
  go_enter Tryd.func44, Tryd.ntmps44
  go_wp2_with fail
  refine (HC.out).mono ?_
  rintro e w' ⟨rfl, rfl⟩
  clear HC
  go_wp2
  go_ret2
  exact ⟨rfl, rfl⟩

theorem fits_over (a : Option Addr) (zs : List Int) (cap : Nat) (more : Int) (w : World) (R : IntRow w a zs) (hm : zs.length ≤ maxLen) (h : ¬ hasNeg zs) (h0 : 0 ≤ more) (ht : 9223372036854775807 < sumTo zs zs.length) :
    Calls Tryd.prog 44 #[.slice a zs.length cap, .int .i64 more] w fun e w' => e = .returned (.tuple #[.bool false, .nilIface]) ∧ w = w' := by
  have he := eqIfaceOp
  have c1 : decide (more < 0) = false := by simp; omega
  have HC := Lib.hid (sum_over a zs cap w R hm h ht)
  clear R h ht
  go_enter Tryd.func44, Tryd.ntmps44
  go_wp2_with fail
  refine (HC.out).mono ?_
  rintro e w' ⟨rfl, rfl⟩
  clear HC
  go_wp2
  go_ret2
  exact ⟨rfl, rfl⟩

theorem fits_sum (a : Option Addr) (zs : List Int) (cap : Nat) (more : Int) (w : World) (R : IntRow w a zs) (hm : zs.length ≤ maxLen) (h : ¬ hasNeg zs) (h0 : 0 ≤ more) (ht : sumTo zs zs.length ≤ 9223372036854775807) :
    Calls Tryd.prog 44 #[.slice a zs.length cap, .int .i64 more] w fun e w' => e = .returned (.tuple #[.bool (decide (more + sumTo zs zs.length ≤ 1048576)), .nilIface]) ∧ w = w' := by
  have hn := eqNilOp
  have he := eqIfaceOp
  have c1 : decide (more < 0) = false := by simp; omega
  have HC := Lib.hid (sum_ok a zs cap w R hm h ht)
  obtain ⟨s, hs⟩ : ∃ s, s = sumTo zs zs.length := ⟨_, rfl⟩
  have hs0 : 0 ≤ s := by rw [hs]; exact sumTo_nonneg (not_hasNeg h) _ (Nat.le_refl _)
  rw [← hs] at HC ⊢
  clear R h ht hs
  by_cases k1 : more ≤ 1048576
  · have d1 : decide (more ≤ 1048576) = true := by simp; omega
    by_cases k2 : s ≤ 1048576 - more
    · have d2 : decide (s ≤ 1048576 - more) = true := by simp; omega
      have d3 : decide (more + s ≤ 1048576) = true := by simp; omega
      rw [d3]
      go_enter Tryd.func44, Tryd.ntmps44
      go_wp2_with fail
      refine (HC.out).mono ?_
      rintro e w' ⟨rfl, rfl⟩
      clear HC d3
      go_wp2
      go_ret2
      exact ⟨rfl, rfl⟩
    · have d2 : decide (s ≤ 1048576 - more) = false := by simp; omega
      have d3 : decide (more + s ≤ 1048576) = false := by simp; omega
      rw [d3]
      go_enter Tryd.func44, Tryd.ntmps44
      go_wp2_with fail
      refine (HC.out).mono ?_
      rintro e w' ⟨rfl, rfl⟩
      clear HC d3
      go_wp2
      go_ret2
      exact ⟨rfl, rfl⟩
  · have d1 : decide (more ≤ 1048576) = false := by simp; omega
    have d3 : decide (more + s ≤ 1048576) = false := by simp; omega
    rw [d3]
    go_enter Tryd.func44, Tryd.ntmps44
    go_wp2_with fail
    refine (HC.out).mono ?_
    rintro e w' ⟨rfl, rfl⟩
    clear HC d3
    go_wp2
    go_ret2
    exact ⟨rfl, rfl⟩

/-! ### the reference's -/
theorem rfits_neg (a : Option Addr) (zs : List Int) (cap : Nat) (more : Int) (w : World) (R : IntRow w a zs) (hm : zs.length ≤ maxLen) (h : hasNeg zs) :
    Calls Tryd.prog 45 #[.slice a zs.length cap, .int .i64 more] w fun e w' => e = .returned (.tuple #[.bool false, .int .i64 1]) ∧ w = w' := by
  have HC := Lib.hid (rbelow_yes a zs cap w R hm h)
  clear R h
  go_enter Tryd.func45, Tryd.ntmps45
  go_wp2_with fail
  refine (HC.out).mono ?_
  rintro e w' ⟨rfl, rfl⟩
  clear HC
  go_wp2
  go_ret2
  exact ⟨rfl, rfl⟩
theorem rfits_more (a : Option Addr) (zs : List Int) (cap : Nat) (more : Int) (w : World) (R : IntRow w a zs) (hm : zs.length ≤ maxLen) (h : ¬ hasNeg zs) (h0 : more < 0) :
    Calls Tryd.prog 45 #[.slice a zs.length cap, .int .i64 more] w fun e w' => e = .returned (.tuple #[.bool false, .int .i64 1]) ∧ w = w' := by
  have HC := Lib.hid (rbelow_no a zs cap w R hm h)
  have c1 : decide (more < 0) = true := by simp; omega
  clear R h
  go_enter Tryd.func45, Tryd.ntmps45
  go_wp2_with fail
  refine (HC.out).mono ?_
  rintro e w' ⟨rfl, rfl⟩
  clear HC
  go_wp2
  go_ret2
  exact ⟨rfl, rfl⟩
theorem rfits_great (a : Option Addr) (zs : List Int) (cap : Nat) (more : Int) (w : World) (R : IntRow w a zs) (hm : zs.length ≤ maxLen) (h : ¬ hasNeg zs) (h0 : 1048576 < more) :
    Calls Tryd.prog 45 #[.slice a zs.length cap, .int .i64 more] w fun e w' => e = .returned (.tuple #[.bool false, .int .i64 0]) ∧ w = w' := by
  have HC := Lib.hid (rbelow_no a zs cap w R hm h)
  have c1 : decide (more < 0) = false := by simp; omega
  have c2 : decide (1048576 < more) = true := by simp; omega
  clear R h
  go_enter Tryd.func45, Tryd.ntmps45
  go_wp2_with fail
  refine (HC.out).mono ?_
  rintro e w' ⟨rfl, rfl⟩
  clear HC
  go_wp2
  go_ret2
  exact ⟨rfl, rfl⟩

theorem rfits_empty (a : Option Addr) (cap : Nat) (more : Int) (w : World) (h0 : 0 ≤ more) (h1 : more ≤ 1048576) :
    Calls Tryd.prog 45 #[.slice a 0 cap, .int .i64 more] w fun e w' => e = .returned (.tuple #[.bool true, .int .i64 0]) ∧ w = w' := by
  have c1 : decide (more < 0) = false := by simp; omega
  have c2 : decide (1048576 < more) = false := by simp; omega
  go_enter Tryd.func45, Tryd.ntmps45
  go_wp2_with fail
  refine (rbelow_no a [] cap _ (Or.inl rfl) (by simp) (fun ⟨j, hj, _⟩ => by simp at hj)).mono ?_
  rintro e w' ⟨rfl, rfl⟩
  go_wp2
  refine wp_loop_rounds 1 ?_
  rw [rounds_succ]
  go_wp2
  go_ret2
  exact ⟨rfl, rfl⟩

set_option maxHeartbeats 2000000 in
theorem rfits_sum (a : Option Addr) (zs : List Int) (cap : Nat) (more : Int) (w : World) (R : IntRow w a zs) (hm : zs.length ≤ maxLen) (h : ¬ hasNeg zs) (h0 : 0 ≤ more) (h1 : more ≤ 1048576) :
    Calls Tryd.prog 45 #[.slice a zs.length cap, .int .i64 more] w fun e w' => e = .returned (.tuple #[.bool (decide (more + sumTo zs zs.length ≤ 1048576)), .int .i64 0]) ∧ w = w' := by
  rcases R with rfl | ⟨b, o, rfl, hc⟩
  · have e : decide (more + sumTo [] ([] : List Int).length ≤ 1048576) = true := by simp [sumTo]; omega
    rw [e]; exact rfits_empty a cap more w h0 h1
  · have HB := Lib.hid (rbelow_no (some ⟨b, o, none⟩) zs cap w (Or.inr ⟨b, o, rfl, hc⟩) hm h)
    have hall := not_hasNeg h
    clear h
    unfold maxLen at hm
    obtain ⟨len, hlen⟩ : ∃ len, len = zs.length := ⟨_, rfl⟩
    have hmono : ∀ k, k < len → 0 ≤ sumTo zs k ∧ sumTo zs (k + 1) ≤ sumTo zs len := fun k hk => ⟨sumTo_nonneg hall k (by omega), by rw [hlen]; exact sumTo_mono hall (k + 1) zs.length (by omega) (Nat.le_refl _)⟩
    rw [← hlen] at hm hc hall HB ⊢
    clear hlen
    have HC := Lib.hid hc
    clear hc
    have HA := Lib.hid hall
    clear hall
    have HM := Lib.hid hmono
    clear hmono
    have c1 : decide (more < 0) = false := by simp; omega
    have c2 : decide (1048576 < more) = false := by simp; omega
    obtain ⟨res, hres⟩ : ∃ r, r = decide (more + sumTo zs len ≤ 1048576) := ⟨_, rfl⟩
    rw [← hres]
    have HR := Lib.hid hres
    clear hres
    go_enter Tryd.func45, Tryd.ntmps45
    go_wp2_with fail
    refine (HB.out).mono ?_
    rintro e w' ⟨rfl, rfl⟩
    clear HB
    go_wp2
    go_loop [6, 7] (fun s i => ∃ k : Nat, ∃ y : Int, k ≤ len ∧ i = .int .i64 k ∧ s = .int .i64 y ∧ Hid (y = 1048576 - more - sumTo zs k) ∧ 0 ≤ y ∧ y ≤ 1048576) (fun _ i => len - (intOf i).toNat)
    case atStart => exact ⟨0, _, Nat.zero_le _, rfl, rfl, Lib.hid (by simp [sumTo]), by omega, by omega⟩
    case round =>
      obtain ⟨m, y, hmm, rfl, rfl, hy, hy0, hy1⟩ := hrel
      by_cases hlm : m < len
      · obtain ⟨x, hx⟩ : ∃ x, x = zs.getD m 0 := ⟨_, rfl⟩
        have hcell := HC.out m hlm
        have hpos := HA.out m hlm
        have hb := HM.out m hlm
        have hsucc : sumTo zs (m + 1) = sumTo zs m + x := by rw [hx]; rfl
        rw [hsucc] at hb
        rw [← hx] at hcell hpos
        have HS := Lib.hid hsucc
        have HBd := Lib.hid hb
        clear hx hsucc hb
        by_cases hd : x ≤ y
        · have hd' : decide (y < x) = false := by simp; omega
          go_wp2
          go_round
          case rel => exact ⟨m + 1, y - x, by omega, by go_num, rfl, Lib.hid (by have := hy.out; rw [HS.out]; omega), by omega, by omega⟩
          case measure => simp [intOf]; omega
        · have hd' : decide (y < x) = true := by simp; omega
          have hf : res = false := by rw [HR.out]; simp; have := hy.out; have := HBd.out; omega
          have HF := Lib.hid hf
          clear hf
          go_wp2
          go_ret2
          exact ⟨ret2_bool HF.out.symm, rfl⟩
      · have e : m = len := by omega
        subst e
        have hf : res = true := by rw [HR.out]; simp; have := hy.out; omega
        have HF := Lib.hid hf
        clear hf
        go_wp2
        go_ret2
        exact ⟨ret2_bool HF.out.symm, rfl⟩

end Go.Proofs.YtggcahcdhjnemaaDoor
