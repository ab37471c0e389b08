/- tithelaw04.works, by contract. -/
import Derived.Test.YtahaclglkbgpcaaFqS3
set_option linter.unusedVariables false
set_option linter.unusedSimpArgs false
namespace Go.Proofs.Ytahaclglkbgpcaa
open Go.RowKit
set_option maxRecDepth 100000

theorem works_ok (w : World) : Calls Try.prog 15 #[] w fun e w' => e = .returned (.bool true) ∧ Below w.heap.size w w' := by
  go_enter Try.func15, Try.ntmps15
  go_wp2_with fail
  refine (St.new_ok 2 w (by omega) (by omega)).mono ?_
  rintro e w1 ⟨rfl, Q1, B1⟩
  have HQ1 := Lib.hid Q1
  clear Q1
  go_wp2_with fail
  refine (St.push_ok _ _ HQ1.out (by simp)).mono ?_
  rintro e w2 ⟨rfl, S2, Q2, C2, F2⟩
  have HQ2 := Lib.hid Q2
  have B2 : Below w.heap.size w w2 := B1.trans (C2.below B1.size (by intro k hk; have : k = w.heap.size := hk; omega))
  have G2 := Lib.hid (show ∀ k, S2 k → w.heap.size ≤ k from fun k hk => by rcases F2 k hk with h | h; (have : k = w.heap.size := h; omega); (have := B1.size; omega))
  clear Q2 C2 F2
  go_wp2_with fail
  refine (St.push_ok _ _ HQ2.out (by simp)).mono ?_
  rintro e w3 ⟨rfl, S3, Q3, C3, F3⟩
  have HQ3 := Lib.hid Q3
  have B3 : Below w.heap.size w w3 := B2.trans (C3.below B2.size G2.out)
  have G3 := Lib.hid (show ∀ k, S3 k → w.heap.size ≤ k from fun k hk => by rcases F3 k hk with h | h; (exact G2.out k h); (have := B2.size; omega))
  clear Q3 C3 F3
  go_wp2_with fail
  refine (St.push_full _ 2 _ w3 HQ3.out.c2 HQ3.out.c3 (by omega)).mono ?_
  rintro e w4 ⟨rfl, rfl⟩
  go_wp2_with fail
  refine (St.pop_ok _ HQ3.out).mono ?_
  rintro e w4 ⟨rfl, Q4, C4⟩
  have HQ4 := Lib.hid Q4
  have B4 : Below w.heap.size w w4 := B3.trans (C4.below B3.size G3.out)
  clear Q4 C4
  go_wp2_with fail
  refine (St.head_ok _ HQ4.out).mono ?_
  rintro e w5 ⟨rfl, b5⟩
  have HQ5 := Lib.hid (HQ4.out.below b5)
  have B5 := below_call B4 (Nat.le_refl _) b5
  clear b5
  go_wp2_with fail
  refine (new_low 0 w5 (by omega)).mono ?_
  rintro e w6 ⟨rfl, rfl⟩
  go_wp2_with fail
  refine (num_errno 40 w5).mono ?_
  rintro e w6 ⟨rfl, rfl⟩
  go_wp2_with fail
  refine (St.len_ok _ _ w5 HQ5.out.c2).mono ?_
  rintro e w6 ⟨rfl, rfl⟩
  go_wp2_with fail
  refine (St.room_ok _ 1 2 w5 HQ5.out.c2 HQ5.out.c3 (by omega) (by omega)).mono ?_
  rintro e w6 ⟨rfl, rfl⟩
  go_wp2_with fail
  refine (num_errno 1 w5).mono ?_
  rintro e w6 ⟨rfl, rfl⟩
  go_wp2_with fail
  go_ret
  exact ⟨rfl, B5⟩

end Go.Proofs.Ytahaclglkbgpcaa
