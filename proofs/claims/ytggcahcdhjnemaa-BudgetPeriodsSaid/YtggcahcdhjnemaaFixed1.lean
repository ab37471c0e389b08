/- fixed.Valid, Share, Compare, Most and the reference's Valid, by contract. -/
import Derived.Test.YtggcahcdhjnemaaBase
set_option linter.unusedVariables false
set_option linter.unusedSimpArgs false
namespace Go.Proofs.Ytggcahcdhjnemaa
open Go.RowKit

theorem fvalid_ok (q p : Int) (w : World) (h : Vld q p) :
    Calls Try.prog 18 #[.agg #[.int .i64 q, .int .i64 p]] w fun e w' => e = .returned .nilIface ∧ Below w.heap.size w w' := by
  have c1 := h.c1; have c2 := h.c2; have c3 := h.c3
  clear h
  go_enter Try.func18, Try.ntmps18
  go_wp2
  go_ret
  exact ⟨rfl, (Below.refl _ _).alloc (Nat.le_refl _) _⟩

theorem fvalid_bad (q p : Int) (w : World) (h : ¬ Vld q p) :
    Calls Try.prog 18 #[.agg #[.int .i64 q, .int .i64 p]] w fun e w' => e = .returned (.iface 47 (.int .i64 2)) ∧ Below w.heap.size w w' := by
  rcases notVld h with c1 | ⟨c1, c2⟩ | ⟨c1, c2, c3⟩
  all_goals
    clear h
    go_enter Try.func18, Try.ntmps18
    go_wp2
    go_ret
    exact ⟨rfl, (Below.refl _ _).alloc (Nat.le_refl _) _⟩

theorem rvalid_ok (q p : Int) (w : World) (h : Vld q p) :
    Calls Try.prog 7 #[.agg #[.int .i64 q, .int .i64 p]] w fun e w' => e = .returned (.int .i64 0) ∧ Below w.heap.size w w' := by
  have c1 := h.c1; have c2 := h.c2; have c3 := h.c3
  clear h
  go_enter Try.func7, Try.ntmps7
  go_wp2
  go_ret
  exact ⟨rfl, (Below.refl _ _).alloc (Nat.le_refl _) _⟩

theorem rvalid_bad (q p : Int) (w : World) (h : ¬ Vld q p) :
    Calls Try.prog 7 #[.agg #[.int .i64 q, .int .i64 p]] w fun e w' => e = .returned (.int .i64 2) ∧ Below w.heap.size w w' := by
  rcases notVld h with c1 | ⟨c1, c2⟩ | ⟨c1, c2, c3⟩
  all_goals
    clear h
    go_enter Try.func7, Try.ntmps7
    go_wp2
    go_ret
    exact ⟨rfl, (Below.refl _ _).alloc (Nat.le_refl _) _⟩

/-- A reservation's units. -/
def unitsOf (q p : Int) : Int := (q * 1048576 + p - 1) / p

theorem share_ok (q p : Int) (w : World) (h : Vld q p) :
    Calls Try.prog 5 #[.agg #[.int .i64 q, .int .i64 p]] w fun e w' => e = .returned (.tuple #[.int .i64 (unitsOf q p), .nilIface]) ∧ Below w.heap.size w w' := by
  have h1 := h.lo; have h2 := h.top; have h3 := h.le
  go_enter Try.func5, Try.ntmps5
  go_wp2_with fail
  refine (fvalid_ok q p _ h).mono ?_
  rintro e w1 ⟨rfl, hb⟩
  obtain ⟨hc, hf⟩ := bcell hb
  go_wp2
  go_ret2
  exact ⟨rfl, (((Below.refl _ _).alloc (Nat.le_refl _) _)).trans (hb.mono (by simp))⟩

theorem share_bad (q p : Int) (w : World) (h : ¬ Vld q p) :
    Calls Try.prog 5 #[.agg #[.int .i64 q, .int .i64 p]] w fun e w' => e = .returned (.tuple #[.int .i64 0, .iface 47 (.int .i64 2)]) ∧ Below w.heap.size w w' := by
  go_enter Try.func5, Try.ntmps5
  go_wp2_with fail
  refine (fvalid_bad q p _ h).mono ?_
  rintro e w1 ⟨rfl, hb⟩
  obtain ⟨hc, hf⟩ := bcell hb
  go_wp2
  go_ret2
  exact ⟨rfl, (((Below.refl _ _).alloc (Nat.le_refl _) _)).trans (hb.mono (by simp))⟩

end Go.Proofs.Ytggcahcdhjnemaa
