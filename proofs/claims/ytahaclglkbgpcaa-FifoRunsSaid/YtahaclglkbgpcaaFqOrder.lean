/- tithelaw04.FifoOrder, by contract. -/
import Derived.Test.YtahaclglkbgpcaaFqW
set_option linter.unusedVariables false
set_option linter.unusedSimpArgs false
namespace Go.Proofs.Ytahaclglkbgpcaa
open Go.RowKit
set_option maxRecDepth 100000

/-- The numbers from a on. -/
def run (a n : Nat) : List Value := (List.range n).map fun i => Value.int .i64 ((a + i : Nat) : Int)
theorem run_length (a n : Nat) : (run a n).length = n := by simp [run]
theorem run_push (a n : Nat) : run a n ++ [.int .i64 ((a + n : Nat) : Int)] = run a (n + 1) := by simp [run, List.range_succ]
theorem run_pop (a n : Nat) : run a (n + 1) = .int .i64 (a : Int) :: run (a + 1) n := by
  simp [run, List.range_succ_eq_map, Function.comp_def]
  intro i hi; omega

theorem limit_of (x : Int) : ∃ lim : Nat, wrap64 ((wrap64 (x.tmod 9 + 9)).tmod 9 + 1) = (lim : Int) ∧ 1 ≤ lim ∧ lim ≤ 9 := by
  have h1 : x.tmod 9 < 9 := Int.tmod_lt_of_pos x (by omega)
  have h2 : -9 < x.tmod 9 := by
    have := Int.neg_tmod x 9
    have h3 : (-x).tmod 9 < 9 := Int.tmod_lt_of_pos (-x) (by omega)
    omega
  obtain ⟨y, hy⟩ : ∃ y, y = x.tmod 9 := ⟨_, rfl⟩
  rw [← hy] at h1 h2 ⊢
  have e1 : wrap64 (y + 9) = y + 9 := by unfold wrap64; omega
  rw [e1, Int.tmod_eq_emod_of_nonneg (by omega)]
  refine ⟨((y + 9) % 9 + 1).toNat, ?_, by omega, by omega⟩
  unfold wrap64; omega

theorem list_qu (T : TypeId) {w : World} {q lim : Nat} {vs : List Value} {S : Nat → Prop} (h : Qu IsI T 3 w q lim vs S) :
    Calls Try.prog 14 #[.pointer (some ⟨q, 0, none⟩)] w fun e w' => ∃ v, e = .returned v ∧ w'.ownsRow w.heap.size 3 1 v vs.length vs ∧ Below w.heap.size w w' := by
  obtain ⟨ring, n, cap, first, cells, h1, h2, h3, h4⟩ := h
  refine (list_ok q T ring n cap first vs.length lim cells w h1 h2).mono ?_
  rintro e w' ⟨v, rfl, r1, r2⟩
  exact ⟨v, rfl, by rw [h3] at r1; exact r1, r2⟩

theorem order_ok (limit : Int) (a : Option Addr) (zs : List Bool) (cap : Nat) (w : World) (hm : zs.length ≤ maxLen) (hc : zs = [] ∨ ∃ b o, a = some ⟨b, o, none⟩ ∧ ∀ i, i < zs.length → w.cell? ⟨b, o + i, none⟩ = some (.bool (zs.getD i false))) :
    Calls Try.prog 3 #[.int .i64 limit, .slice a zs.length cap] w fun e w' => e = .returned (.bool true) ∧ Below w.heap.size w w' := by
  unfold maxLen at hm
  obtain ⟨len, hlen⟩ : ∃ len, len = zs.length := ⟨_, rfl⟩
  rw [← hlen] at hm hc ⊢
  have HL := Lib.hid hlen
  clear hlen
  have HC := Lib.hid hc
  clear hc
  go_enter Try.func3, Try.ntmps3
  obtain ⟨lim, hlim, l1, l2⟩ := limit_of limit
  go_wp2_with fail
  rw [hlim]
  clear hlim
  refine (new_ok lim w (by omega) (by omega)).mono ?_
  rintro e w1 ⟨rfl, Q1, B1⟩
  have HQ1 := Lib.hid Q1
  clear Q1
  have HB1 := Lib.hid B1
  clear B1
  obtain ⟨q, hq⟩ : ∃ q, q = w.heap.size := ⟨_, rfl⟩
  rw [← hq]
  rw [← hq] at HQ1
  have HQ := Lib.hid hq
  clear hq
  go_wp2_with fail
  go_loopw [7, 8, 9] (fun vin vout vi wr => ∃ k inn out : Nat, k ≤ len ∧ vi = .int .i64 k ∧ vin = .int .i64 inn ∧ vout = .int .i64 out ∧ out ≤ inn ∧ inn ≤ k ∧ inn - out ≤ lim ∧ Hid (∃ S, Qu IsI 84 3 wr q lim (run out (inn - out)) S ∧ ∀ j, S j → w.heap.size ≤ j) ∧ Hid (Below w.heap.size w wr)) (fun _ _ i _ => len - (intOf i).toNat)
  case atStart => exact ⟨0, 0, 0, Nat.zero_le _, rfl, rfl, rfl, Nat.le_refl _, Nat.le_refl _, Nat.zero_le _, Lib.hid ⟨_, HQ1.out, fun j hj => by have : j = q := hj; rw [this, HQ.out]; exact Nat.le_refl _⟩, HB1⟩
  case round =>
    obtain ⟨k, inn, out, hk, rfl, rfl, rfl, h1, h2, h3, hQ, hB⟩ := hrel
    by_cases hlt : k < len
    · obtain ⟨b, o, rfl, hcc⟩ : ∃ b o, a = some ⟨b, o, none⟩ ∧ ∀ i, i < len → w.cell? ⟨b, o + i, none⟩ = some (.bool (zs.getD i false)) := by
        rcases HC.out with h | h
        · have := HL.out; rw [h] at this; simp at this; omega
        · exact h
      have hcell := hcc k hlt
      clear hcc
      rw [← hB.out.cell (p := ⟨b, o + k, none⟩) (by
        rcases Nat.lt_or_ge b w.heap.size with h | h
        · exact h
        · simp [World.cell?, Array.getElem?_eq_none h] at hcell)] at hcell
      cases hp : zs.getD k false with
      | true =>
        rw [hp] at hcell
        clear hp
        by_cases he : out < inn
        · obtain ⟨S, Q, G⟩ := hQ.out
          obtain ⟨d, hd⟩ : ∃ d, inn = out + 1 + d := ⟨inn - out - 1, by omega⟩
          rw [show inn - out = d + 1 by omega, run_pop] at Q
          have P := pop_ok _ Q
          have HP := Lib.hid P
          clear P Q
          have HG := Lib.hid G
          clear G
          have t0 : decide ((out : Int) < (inn : Int)) = true := by simp; omega
          have HD := Lib.hid hd
          clear hd
          go_wp2_with fail
          refine (HP.out).mono ?_
          rintro e w2 ⟨rfl, Q', C'⟩
          have c2 : w2.cell? ⟨q, 2, none⟩ = some (.int .i64 (d : Int)) := by have := Q'.c2; rw [run_length] at this; exact this
          have c3 := Q'.c3
          have B' : Below w.heap.size w w2 := hB.out.trans (C'.below hB.out.size HG.out)
          have R' : Hid (∃ S, Qu IsI 84 3 w2 q lim (run (out + 1) (inn - (out + 1))) S ∧ ∀ j, S j → w.heap.size ≤ j) := Lib.hid ⟨S, by rw [show inn - (out + 1) = d by have := HD.out; omega]; exact Q', HG.out⟩
          have HB' := Lib.hid B'
          clear Q' C' B' HP
          have hdl : d ≤ lim := by have := HD.out; omega
          have t2 : ((inn : Int) - ((out : Int) + 1)) = (d : Int) := by have := HD.out; omega
          go_wp2_with fail
          refine (len_ok q d w2 c2).mono ?_
          rintro e w3 ⟨rfl, rfl⟩
          go_wp2_with fail
          refine (len_ok q d w2 c2).mono ?_
          rintro e w3 ⟨rfl, rfl⟩
          go_wp2_with fail
          refine (room_ok q d lim w2 c2 c3 hdl (by omega)).mono ?_
          rintro e w3 ⟨rfl, rfl⟩
          go_wp2_with fail
          go_roundw
          case rel => exact ⟨k + 1, inn, out + 1, by omega, by go_num, rfl, by go_num, by omega, by omega, by have := HD.out; omega, R', HB'⟩
          case measure => simp [intOf]; omega
        · obtain ⟨S, Q, G⟩ := hQ.out
          have hio : inn = out := by omega
          subst hio
          have c2 : wr.cell? ⟨q, 2, none⟩ = some (.int .i64 ((0 : Nat) : Int)) := by have := Q.c2; rw [run_length, Nat.sub_self] at this; exact this
          have c3 := Q.c3
          clear Q
          go_wp2_with fail
          refine (pop_none q 0 wr c2 (by omega)).mono ?_
          rintro e w2 ⟨rfl, rfl⟩
          go_wp2_with fail
          refine (len_ok q 0 wr c2).mono ?_
          rintro e w2 ⟨rfl, rfl⟩
          go_wp2_with fail
          refine (len_ok q 0 wr c2).mono ?_
          rintro e w2 ⟨rfl, rfl⟩
          go_wp2_with fail
          refine (room_ok q 0 lim wr c2 c3 (Nat.zero_le _) (by omega)).mono ?_
          rintro e w2 ⟨rfl, rfl⟩
          go_wp2_with fail
          go_roundw
          case rel => exact ⟨k + 1, inn, inn, by omega, by go_num, rfl, rfl, h1, by omega, h3, hQ, hB⟩
          case measure => simp [intOf]; omega
      | false =>
        rw [hp] at hcell
        clear hp
        by_cases he : inn - out = lim
        · obtain ⟨S, Q, G⟩ := hQ.out
          have c2 : wr.cell? ⟨q, 2, none⟩ = some (.int .i64 (lim : Int)) := by have := Q.c2; rw [run_length, he] at this; exact this
          have c3 := Q.c3
          have t1 : (inn : Int) - (out : Int) = (lim : Int) := by omega
          clear Q
          go_wp2_with fail
          refine (push_full q lim inn wr c2 c3 (by omega)).mono ?_
          rintro e w2 ⟨rfl, rfl⟩
          go_wp2_with fail
          refine (len_ok q lim wr c2).mono ?_
          rintro e w2 ⟨rfl, rfl⟩
          go_wp2_with fail
          refine (len_ok q lim wr c2).mono ?_
          rintro e w2 ⟨rfl, rfl⟩
          go_wp2_with fail
          refine (room_ok q lim lim wr c2 c3 (by omega) (by omega)).mono ?_
          rintro e w2 ⟨rfl, rfl⟩
          go_wp2_with fail
          go_roundw
          case rel => exact ⟨k + 1, inn, out, by omega, by go_num, rfl, rfl, h1, by omega, h3, hQ, hB⟩
          case measure => simp [intOf]; omega
        · obtain ⟨S, Q, G⟩ := hQ.out
          have t0 : (((inn : Int) - (out : Int)) == (lim : Int)) = false := by simp; omega
          have P := push_ok _ (inn : Int) Q (by rw [run_length]; omega)
          have HP := Lib.hid P
          clear P Q
          have HG := Lib.hid G
          clear G
          go_wp2_with fail
          refine (HP.out).mono ?_
          rintro e w2 ⟨rfl, S', Q', C', F'⟩
          have e1 : run out (inn - out) ++ [.int .i64 (inn : Int)] = run out (inn + 1 - out) := by
            have := run_push out (inn - out)
            rw [show out + (inn - out) = inn by omega, show inn - out + 1 = inn + 1 - out by omega] at this
            exact this
          rw [e1] at Q'
          have c2 : w2.cell? ⟨q, 2, none⟩ = some (.int .i64 ((inn + 1 - out : Nat) : Int)) := by have := Q'.c2; rw [run_length] at this; exact this
          have c3 := Q'.c3
          have B' : Below w.heap.size w w2 := hB.out.trans (C'.below hB.out.size HG.out)
          have R' : Hid (∃ S, Qu IsI 84 3 w2 q lim (run out (inn + 1 - out)) S ∧ ∀ j, S j → w.heap.size ≤ j) := Lib.hid ⟨S', Q', fun j hj => by rcases F' j hj with h | h; (exact HG.out j h); (have := hB.out.size; omega)⟩
          have HB' := Lib.hid B'
          clear Q' C' F' e1 B' HP
          have t2 : ((inn : Int) + 1 - (out : Int)) = ((inn + 1 - out : Nat) : Int) := by omega
          have HT := Lib.hid t2
          obtain ⟨d, hd⟩ : ∃ d, d = inn + 1 - out := ⟨_, rfl⟩
          rw [← hd] at t2 c2
          have hdl : d ≤ lim := by omega
          have HD := Lib.hid hd
          clear hd
          go_wp2_with fail
          refine (len_ok q d w2 c2).mono ?_
          rintro e w3 ⟨rfl, rfl⟩
          go_wp2_with fail
          refine (len_ok q d w2 c2).mono ?_
          rintro e w3 ⟨rfl, rfl⟩
          go_wp2_with fail
          refine (room_ok q d lim w2 c2 c3 hdl (by omega)).mono ?_
          rintro e w3 ⟨rfl, rfl⟩
          go_wp2_with fail
          go_roundw
          case rel => exact ⟨k + 1, inn + 1, out, by omega, by go_num, by go_num, rfl, by omega, by omega, by rw [← HD.out]; exact hdl, R', HB'⟩
          case measure => simp [intOf]; omega
    · have hkl : k = len := by omega
      obtain ⟨S, Q, G⟩ := hQ.out
      have L := list_qu _ Q
      rw [run_length] at L
      obtain ⟨d, hd⟩ : ∃ d, d = inn - out := ⟨_, rfl⟩
      rw [← hd] at L
      have t2 : ((inn : Int) - (out : Int)) = (d : Int) := by omega
      have HD := Lib.hid hd
      clear hd Q
      go_wp2_with fail
      refine L.mono ?_
      rintro e w2 ⟨v, rfl, hown, hb⟩
      have hB2 := Lib.hid (below_call hB.out (Nat.le_refl _) hb)
      clear hb L
      by_cases hd0 : d = 0
      · subst hd0
        rcases hown.2 with ⟨rfl, _⟩ | ⟨g, cap', cur, rfl, _⟩
        all_goals
          clear hown
          go_wp2
          go_loop [14] (fun i => i = .int .i64 0) (fun _ => 0)
          case atStart => rfl
          case round =>
            obtain rfl := hrel
            go_wp2_with fail
            refine (works_ok w2).mono ?_
            rintro e w3 ⟨rfl, hb3⟩
            go_wp2_with fail
            go_ret
            exact ⟨rfl, below_call hB2.out (Nat.le_refl _) hb3⟩
      · obtain ⟨g, cp2, rfl, hge, hgl⟩ := hown.form (by omega)
        have HW := Lib.hid (show ∀ j, j < d → w2.cell? ⟨g, j, none⟩ = some (.int .i64 ((out + j : Nat) : Int)) from fun j hj => by
          rw [hown.cellAt j (by omega)]
          simp [run, hj])
        clear hown
        have hdl : d ≤ 9 := by have := HD.out; omega
        go_wp2
        go_loop [14] (fun i => ∃ j : Nat, j ≤ d ∧ i = .int .i64 j) (fun i => d - (intOf i).toNat)
        case atStart => exact ⟨0, Nat.zero_le _, rfl⟩
        case round =>
          obtain ⟨j, hj, rfl⟩ := hrel
          by_cases hjl : j < d
          · have hcell := HW.out j hjl
            go_wp2
            go_round
            case rel => exact ⟨j + 1, by omega, by go_num⟩
            case measure => simp [intOf]; omega
          · have hjd : j = d := by omega
            subst hjd
            go_wp2_with fail
            refine (works_ok w2).mono ?_
            rintro e w3 ⟨rfl, hb3⟩
            go_wp2_with fail
            go_ret
            exact ⟨rfl, below_call hB2.out (Nat.le_refl _) hb3⟩

end Go.Proofs.Ytahaclglkbgpcaa
