/- Queues without room (none, or one that New has not made): every method, by contract. -/
import Derived.Test.YtahaclglkbgpcaaFqA3
set_option linter.unusedVariables false
set_option linter.unusedSimpArgs false
namespace Go.Proofs.Ytahaclglkbgpcaa
open Go.RowKit Go.Shelf
set_option maxRecDepth 100000

/-- A queue without room. -/
def QE (w : World) (p : Option Addr) : Prop := p = none ∨ ∃ q, p = some ⟨q, 0, none⟩ ∧ w.cell? ⟨q, 2, none⟩ = some (.int .i64 0) ∧ w.cell? ⟨q, 3, none⟩ = some (.int .i64 0)

theorem QE.heap {a b : World} {p : Option Addr} (h : QE a p) (e : b.heap = a.heap) : QE b p := by
  rcases h with h | ⟨q, h1, h2, h3⟩
  · exact .inl h
  · exact .inr ⟨q, h1, by simpa [World.cell?, e] using h2, by simpa [World.cell?, e] using h3⟩

theorem has_e (w : World) {p : Option Addr} (h : QE w p) (i : Int) :
    Calls Try.prog 45 #[.pointer p, .int .i64 i] w fun e w' => e = .returned (.bool false) ∧ w = w' := by
  rcases h with rfl | ⟨q, rfl, c2, c3⟩
  · exact has_nil i w
  · by_cases h0 : i < 0
    · exact has_lo q i w h0
    · exact has_hi q i 0 w c2 (by omega) (by omega)

theorem at_e (w : World) {p : Option Addr} (h : QE w p) (i : Int) :
    Calls Try.prog 40 #[.pointer p, .int .i64 i] w fun e w' => e = .returned (.tuple #[.int .i64 0, .bool false]) ∧ w = w' := by
  have H := Lib.hid (has_e w h i)
  clear h
  go_enter Try.func40, Try.ntmps40
  go_wp2_with fail
  refine H.out.mono ?_
  rintro e w1 ⟨rfl, rfl⟩
  go_wp2
  go_ret2
  exact ⟨rfl, rfl⟩

theorem head_e (w : World) {p : Option Addr} (h : QE w p) :
    Calls Try.prog 39 #[.pointer p] w fun e w' => e = .returned (.tuple #[.int .i64 0, .bool false]) ∧ w = w' := by
  have H := Lib.hid (at_e w h 0)
  clear h
  go_enter Try.func39, Try.ntmps39
  go_wp2_with fail
  refine H.out.mono ?_
  rintro e w1 ⟨rfl, rfl⟩
  go_wp2
  go_ret2
  exact ⟨rfl, rfl⟩

theorem drop_e (w : World) {p : Option Addr} (h : QE w p) (i : Int) :
    Calls Try.prog 41 #[.pointer p, .int .i64 i] w fun e w' => e = .returned (.tuple #[.int .i64 0, .iface 94 (.int .i64 50)]) ∧ w = w' := by
  have H := Lib.hid (at_e w h i)
  clear h
  go_enter Try.func41, Try.ntmps41
  go_wp2_with fail
  refine H.out.mono ?_
  rintro e w1 ⟨rfl, rfl⟩
  go_wp2
  go_ret2
  exact ⟨rfl, rfl⟩

theorem put_e (w : World) {p : Option Addr} (h : QE w p) (i v : Int) :
    Calls Try.prog 42 #[.pointer p, .int .i64 i, .int .i64 v] w fun e w' => e = .returned (.iface 94 (.int .i64 50)) ∧ w = w' := by
  have H := Lib.hid (has_e w h i)
  clear h
  go_enter Try.func42, Try.ntmps42
  go_wp2_with fail
  refine H.out.mono ?_
  rintro e w1 ⟨rfl, rfl⟩
  go_wp2
  go_ret
  exact ⟨rfl, rfl⟩

theorem len_e (w : World) {p : Option Addr} (h : QE w p) :
    Calls Try.prog 12 #[.pointer p] w fun e w' => e = .returned (.int .i64 0) ∧ w = w' := by
  rcases h with rfl | ⟨q, rfl, c2, c3⟩
  · exact len_nil w
  · exact len_ok q 0 w c2
theorem limit_e (w : World) {p : Option Addr} (h : QE w p) :
    Calls Try.prog 18 #[.pointer p] w fun e w' => e = .returned (.int .i64 0) ∧ w = w' := by
  rcases h with rfl | ⟨q, rfl, c2, c3⟩
  · exact limit_nil w
  · exact limit_ok q 0 w c3
theorem room_e (w : World) {p : Option Addr} (h : QE w p) :
    Calls Try.prog 13 #[.pointer p] w fun e w' => e = .returned (.int .i64 0) ∧ w = w' := by
  rcases h with rfl | ⟨q, rfl, c2, c3⟩
  · exact room_nil w
  · exact room_ok q 0 0 w c2 c3 (Nat.le_refl _) (by omega)
theorem pop_e (w : World) {p : Option Addr} (h : QE w p) :
    Calls Try.prog 10 #[.pointer p] w fun e w' => e = .returned (.tuple #[.int .i64 0, .iface 94 (.int .i64 50)]) ∧ w = w' := by
  rcases h with rfl | ⟨q, rfl, c2, c3⟩
  · exact pop_nil w
  · exact pop_none q 0 w c2 (by omega)
theorem list_e (w : World) {p : Option Addr} (h : QE w p) :
    Calls Try.prog 14 #[.pointer p] w fun e w' => e = .returned (.slice none 0 0) ∧ w = w' := by
  rcases h with rfl | ⟨q, rfl, c2, c3⟩
  · exact list_nil w
  · exact list_none q w c2

theorem push_e (w : World) {p : Option Addr} (h : QE w p) (v : Int) :
    Calls Try.prog 11 #[.pointer p, .int .i64 v] w fun e w' => e = .returned (.iface 94 (.int .i64 40)) ∧ w = w' := by
  have H := Lib.hid (room_e w h)
  clear h
  go_enter Try.func11, Try.ntmps11
  go_wp2_with fail
  refine H.out.mono ?_
  rintro e w1 ⟨rfl, rfl⟩
  go_wp2
  go_ret
  exact ⟨rfl, rfl⟩

theorem clear_e (w : World) {p : Option Addr} (h : QE w p) :
    Calls Try.prog 20 #[.pointer p] w fun e w' => e = .returned (.int .i64 0) ∧ w = w' := by
  have H := Lib.hid (len_e w h)
  clear h
  go_enter Try.func20, Try.ntmps20
  go_wp2_with fail
  refine H.out.mono ?_
  rintro e w1 ⟨rfl, rfl⟩
  go_wp2
  go_ret
  exact ⟨rfl, rfl⟩

theorem twin_nil (w : World) :
    Calls Try.prog 16 #[.pointer none] w fun e w' => e = .returned (.pointer none) ∧ w = w' := by
  go_enter Try.func16, Try.ntmps16
  go_wp2
  go_ret
  exact ⟨rfl, rfl⟩

theorem fn_some (f : FuncId) (w : World) : Sem.run Try.prog (binOp BinOp.eql 92 (Value.func (Fn.func f) #[] #[]) Value.nilFunc) w = .ok (.bool false) w := by kernel_rfl
theorem fn_nil (w : World) : Sem.run Try.prog (binOp BinOp.eql 92 Value.nilFunc Value.nilFunc) w = .ok (.bool true) w := by kernel_rfl
attribute [local go_sem high] fn_some fn_nil

theorem keep_nilfn (p : Option Addr) (w : World) :
    Calls Try.prog 43 #[.pointer p, .nilFunc] w fun e w' => e = .returned (.int .i64 0) ∧ Below w.heap.size w w' := by
  go_enter Try.func43, Try.ntmps43
  go_wp2
  go_ret
  exact ⟨rfl, by repeat (first | exact Below.refl _ _ | exact (Below.refl _ _).alloc (Nat.le_refl _) _)⟩

theorem keep_e (f : FuncId) (w : World) {p : Option Addr} (h : QE w p) :
    Calls Try.prog 43 #[.pointer p, .func (.func f) #[] #[]] w fun e w' => e = .returned (.int .i64 0) ∧ Below w.heap.size w w' := by
  have H := Lib.hid (list_e w h)
  clear h
  go_enter Try.func43, Try.ntmps43
  go_wp2_with fail
  refine H.out.mono ?_
  rintro e w1 ⟨rfl, rfl⟩
  go_wp2_with fail
  refine wp_loop_rounds 1 ?_
  rw [rounds_succ]
  go_wp2
  go_ret
  exact ⟨rfl, Below.refl _ _⟩
end Go.Proofs.Ytahaclglkbgpcaa
