/- titheref04: New, At, by contract. -/
import Derived.Test.YtahaclglkbgpcaaFqR6
set_option linter.unusedVariables false
set_option linter.unusedSimpArgs false
namespace Go.Proofs.Ytahaclglkbgpcaa
open Go.RowKit Go.Shelf
set_option maxRecDepth 100000

theorem rnew_ok (lim : Nat) (w : World) (h0 : 1 ≤ lim) (h1 : lim ≤ 4096) :
    Calls Try.prog 27 #[.int .i64 lim] w fun e w' => e = .returned (.tuple #[.agg #[.int .i64 (lim : Int), .slice none 0 0], .int .i64 0]) ∧ Below w.heap.size w w' := by
  have t0 : decide ((lim : Int) < 1) = false := by simp; omega
  have t1 : decide ((4096 : Int) < lim) = false := by simp; omega
  go_enter Try.func27, Try.ntmps27
  go_wp2_with fail
  refine bodyPost_ret (v := .tuple #[.agg #[.int .i64 (lim : Int), .slice none 0 0], .int .i64 0]) ?_ rfl ⟨rfl, (Below.refl _ w).alloc (Nat.le_refl _) _⟩
  simp [results, Try.results27, go_sem]
theorem rnew_bad (lim : Int) (w : World) (h : lim < 1 ∨ 4096 < lim) :
    Calls Try.prog 27 #[.int .i64 lim] w fun e w' => e = .returned (.tuple #[.agg #[.int .i64 0, .slice none 0 0], .int .i64 1]) ∧ Below w.heap.size w w' := by
  by_cases h0 : lim < 1
  · have t0 : decide (lim < 1) = true := by simp; omega
    go_enter Try.func27, Try.ntmps27
    go_wp2_with fail
    refine bodyPost_ret (v := .tuple #[.agg #[.int .i64 0, .slice none 0 0], .int .i64 1]) ?_ rfl ⟨rfl, (Below.refl _ w).alloc (Nat.le_refl _) _⟩
    simp [results, Try.results27, go_sem]
  · have t0 : decide (lim < 1) = false := by simp; omega
    have t1 : decide ((4096 : Int) < lim) = true := by simp; omega
    go_enter Try.func27, Try.ntmps27
    go_wp2_with fail
    refine bodyPost_ret (v := .tuple #[.agg #[.int .i64 0, .slice none 0 0], .int .i64 1]) ?_ rfl ⟨rfl, (Below.refl _ w).alloc (Nat.le_refl _) _⟩
    simp [results, Try.results27, go_sem]

theorem rat_ok (lim n c B : Nat) (a : Option Addr) (zs : List Int) (i : Int) (w : World) (h : RL w B a n c zs) (hn : n ≤ 4096) :
    Calls Try.prog 66 #[.agg #[.int .i64 (lim : Int), .slice a n c], .int .i64 i] w fun e w' => e = .returned (.tuple #[.int .i64 (if 0 ≤ i then zs[i.toNat]?.getD 0 else 0), .bool (decide (0 ≤ i ∧ i < n))]) ∧ Below w.heap.size w w' := by
  have HR := Lib.hid h
  have hlen := h.len
  clear h
  by_cases h0 : i < 0
  · have t0 : decide (i < 0) = true := by simpa
    have e1 : (if 0 ≤ i then zs[i.toNat]?.getD 0 else 0) = 0 := by rw [if_neg (by omega)]
    have e2 : decide (0 ≤ i ∧ i < (n : Int)) = false := by simp; omega
    rw [e1, e2]
    clear hlen e1 e2
    go_enter Try.func66, Try.ntmps66
    go_wp2_with fail
    go_ret2
    exact ⟨rfl, by exact (Below.refl _ w).alloc (Nat.le_refl _) _⟩
  · have t0 : decide (i < 0) = false := by simp; omega
    obtain ⟨k, rfl⟩ : ∃ k : Nat, i = k := ⟨i.toNat, by omega⟩
    by_cases h1 : k < n
    · have t1 : decide ((n : Int) ≤ (k : Int)) = false := by simp; omega
      obtain ⟨g, c1, e1, hge, hgl⟩ := HR.out.own.form (by omega)
      simp only [Value.slice.injEq, true_and] at e1
      obtain ⟨rfl, rfl⟩ := e1
      have hx := HR.out.own.cellAt k (by omega)
      have hk2 : k < zs.length := by omega
      rw [List.getElem?_map, List.getElem?_eq_getElem hk2] at hx
      have e1 : (if 0 ≤ (k : Int) then zs[(k : Int).toNat]?.getD 0 else 0) = zs[k] := by rw [if_pos (by omega)]; simp [hk2]
      have e2 : decide (0 ≤ (k : Int) ∧ (k : Int) < (n : Int)) = true := by simp; omega
      rw [e1, e2]
      obtain ⟨x, hxe⟩ : ∃ x, x = zs[k] := ⟨_, rfl⟩
      rw [← hxe] at hx ⊢
      have hx2 : (w.alloc (.cells #[.int .i64 (lim : Int), .slice (some ⟨g, 0, none⟩) n c] 56)).cell? ⟨g, k, none⟩ = some (.int .i64 x) := keep ((Below.refl _ w).alloc (Nat.le_refl _) _) (by simpa using hx)
      clear hlen e1 e2 hxe hx hk2
      go_enter Try.func66, Try.ntmps66
      go_wp2_with fail
      go_ret2
      exact ⟨rfl, by exact (Below.refl _ w).alloc (Nat.le_refl _) _⟩
    · have t1 : decide ((n : Int) ≤ (k : Int)) = true := by simp; omega
      have e1 : (if 0 ≤ (k : Int) then zs[(k : Int).toNat]?.getD 0 else 0) = 0 := by
        rw [if_pos (by omega), List.getElem?_eq_none (by simp; omega)]; rfl
      have e2 : decide (0 ≤ (k : Int) ∧ (k : Int) < (n : Int)) = false := by simp; omega
      rw [e1, e2]
      clear hlen e1 e2
      go_enter Try.func66, Try.ntmps66
      go_wp2_with fail
      go_ret2
      exact ⟨rfl, by exact (Below.refl _ w).alloc (Nat.le_refl _) _⟩
end Go.Proofs.Ytahaclglkbgpcaa
