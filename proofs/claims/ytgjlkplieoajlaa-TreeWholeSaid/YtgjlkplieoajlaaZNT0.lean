/- Of the text NT0 only what this claim needs (shake.py, this repo's). -/
import Derived.Test.YtgjlkplieoajlaaZBase
import Derived.Test.YtgjlkplieoajlaaZFq0
import Derived.Test.YtgjlkplieoajlaaZPTreeWholex0
import Derived.Laws.BitsLemmas
import Derived.Test.YtgjlkplieoajlaaZPTreeWholex2
import Derived.Test.YtgjlkplieoajlaaZPTreeWholex4
import Derived.Test.YtgjlkplieoajlaaZPTreeWholex5
import Derived.Test.YtgjlkplieoajlaaZPTreeWholex6
import Derived.Test.YtgjlkplieoajlaaZPTreeWholex7
import Derived.Test.YtgjlkplieoajlaaZPTreeWholex8
set_option linter.unusedVariables false
set_option linter.unusedSimpArgs false
namespace Go.Proofs.Ytgjlkplieoajlaa
open Go.RowKit
open Go.Proofs.YtgjlkplieoajlaaW.PrintWords (Kd Drawn0 Kept rd rdOf)
open Go.Proofs.Ytgjlkplieoajlaa.PTreeWhole

def hk (h : Int) : Int := h / 1099511627776
def hs (h : Int) : Int := h / 1048576 % 1048576
def hg (h : Int) : Int := h % 1048576
def hokB (h : Int) : Bool := decide (1 ≤ hk h ∧ hk h ≤ 3 ∧ hs h ≤ 65535 ∧ 1 ≤ hg h ∧ hg h ≤ 1023)
def mk (k s g : Int) : Int := k * 1099511627776 + s * 1048576 + g

theorem and_mask (h : Int) : Go.bits .and .i64 h 1048575 = h % 1048576 := by
  have e : (BitVec.ofInt 64 h &&& BitVec.ofInt 64 1048575).toNat = (h % 18446744073709551616).toNat % 1048576 := by
    rw [BitVec.toNat_and, BitVec.toNat_ofInt, show (BitVec.ofInt 64 1048575).toNat = 2 ^ 20 - 1 from rfl, Nat.and_two_pow_sub_one_eq_mod]
    simp
  have e2 : Go.bits .and .i64 h 1048575 = IntKind.i64.wrap (((BitVec.ofInt 64 h &&& BitVec.ofInt 64 1048575).toNat : Nat) : Int) := rfl
  rw [e2, e, IntKind.wrap_i64]
  omega

theorem i64_wraps (n : Int) (h₀ : 0 ≤ n) (h₁ : n < 2 ^ 63) : IntKind.i64.wrap n = n := by rw [IntKind.wrap_i64]; omega

theorem or_mk (k s g : Int) (hk0 : 1 ≤ k) (hk3 : k ≤ 3) (hs0 : 0 ≤ s) (hs1 : s < 1048576) (hg0 : 0 ≤ g) (hg1 : g < 1048576) :
    Go.bits .or .i64 (Go.bits .or .i64 (wrap64 (k * 1099511627776)) (wrap64 (s * 1048576))) g = mk k s g := by
  have e1 : wrap64 (k * 1099511627776) = k * 1099511627776 := by unfold wrap64; omega
  have e2 : wrap64 (s * 1048576) = s * 1048576 := by unfold wrap64; omega
  rw [e1, e2, bits_join .i64 63 (by decide) i64_wraps 40 (k * 1099511627776) (s * 1048576) (by omega) (by omega) (by omega) (by omega) (by omega) (by omega)]
  rw [bits_join .i64 63 (by decide) i64_wraps 20 (k * 1099511627776 + s * 1048576) g (by omega) (by omega) (by omega) (by omega) (by omega) (by omega)]
  rfl

theorem hk_mk (k s g : Int) (hs0 : 0 ≤ s) (hs1 : s < 1048576) (hg0 : 0 ≤ g) (hg1 : g < 1048576) : hk (mk k s g) = k ∧ hs (mk k s g) = s ∧ hg (mk k s g) = g := by
  unfold hk hs hg mk; omega
theorem hs_range (h : Int) : 0 ≤ hs h ∧ hs h < 1048576 := by unfold hs; omega
theorem make_f (k s g : Int) (hk0 : 1 ≤ k) (hk3 : k ≤ 3) (hs0 : 0 ≤ s) (hs1 : s ≤ 65535) (hg0 : 1 ≤ g) (hg1 : g ≤ 1023) : handle_Make.f k s g = some (mk k s g, none) := by
  unfold handle_Make.f
  rw [if_neg (by omega), if_neg (by omega), if_neg (by omega), if_neg (by omega), if_neg (by omega), if_neg (by omega), or_mk k s g hk0 hk3 hs0 (by omega) (by omega) (by omega)]
theorem make_f_bad (k s g : Int) (h : ¬ (1 ≤ k ∧ k ≤ 3 ∧ 0 ≤ s ∧ s ≤ 65535 ∧ 1 ≤ g ∧ g ≤ 1023)) : handle_Make.f k s g = some (0, some 1) := by
  unfold handle_Make.f
  repeat' split
  all_goals first | rfl | (exfalso; omega)
theorem parts_f (h : Int) : handle_parts.f h = some (hk h, hs h, hg h) := by
  unfold handle_parts.f
  rw [and_mask, and_mask]; rfl
theorem valid_f (h : Int) : handle_Valid.f h = some (hokB h) := by
  unfold handle_Valid.f
  rw [parts_f]
  simp only [Option.bind_some]
  have r := hs_range h
  by_cases c : 1 ≤ hk h ∧ hk h ≤ 3 ∧ hs h ≤ 65535 ∧ 1 ≤ hg h ∧ hg h ≤ 1023
  · rw [make_f _ _ _ c.1 c.2.1 r.1 c.2.2.1 c.2.2.2.1 c.2.2.2.2]
    simp only [Option.bind_some, Option.isNone, if_true]
    unfold hokB; simp [c]
  · rw [make_f_bad _ _ _ (by omega)]
    simp only [Option.bind_some, Option.isNone]
    unfold hokB; simp [c]
theorem kind_f (h : Int) : handle_Kind.f h = some (if hokB h = true then hk h else 0) := by
  unfold handle_Kind.f
  rw [valid_f, parts_f]
  simp only [Option.bind_some]
  split <;> rfl
theorem slot_f (h : Int) : handle_Slot.f h = some (if hokB h = true then hs h else -1) := by
  unfold handle_Slot.f
  rw [valid_f, parts_f]
  simp only [Option.bind_some]
  split <;> rfl
theorem gen_f (h : Int) : handle_Gen.f h = some (if hokB h = true then hg h else 0) := by
  unfold handle_Gen.f
  rw [valid_f, parts_f]
  simp only [Option.bind_some]
  split <;> rfl

theorem make_q (k s g : Int) (w : World) (hk0 : 1 ≤ k) (hk3 : k ≤ 3) (hs0 : 0 ≤ s) (hs1 : s ≤ 65535) (hg0 : 1 ≤ g) (hg1 : g ≤ 1023) :
    Calls Try.prog 27 #[.int .i64 k, .int .i64 s, .int .i64 g] w fun e w' => e = .returned (.tuple #[.int .i64 (mk k s g), .nilIface]) ∧ ∃ m, w' = w.drewN m :=
  (handle_Make.calls k s g _ _ w (make_f k s g hk0 hk3 hs0 hs1 hg0 hg1)).mono fun _ _ h => ⟨h.1, h.2.out⟩
theorem kind_q (h v : Int) (w : World) (e : (if hokB h = true then hk h else 0) = v) :
    Calls Try.prog 28 #[.int .i64 h] w fun e w' => e = .returned (.int .i64 v) ∧ ∃ m, w' = w.drewN m :=
  (handle_Kind.calls h _ w (by rw [kind_f, e])).mono fun _ _ h => ⟨h.1, h.2.out⟩
theorem slot_q (h v : Int) (w : World) (e : (if hokB h = true then hs h else -1) = v) :
    Calls Try.prog 29 #[.int .i64 h] w fun e w' => e = .returned (.int .i64 v) ∧ ∃ m, w' = w.drewN m :=
  (handle_Slot.calls h _ w (by rw [slot_f, e])).mono fun _ _ h => ⟨h.1, h.2.out⟩
theorem gen_q (h v : Int) (w : World) (e : (if hokB h = true then hg h else 0) = v) :
    Calls Try.prog 30 #[.int .i64 h] w fun e w' => e = .returned (.int .i64 v) ∧ ∃ m, w' = w.drewN m :=
  (handle_Gen.calls h _ w (by rw [gen_f, e])).mono fun _ _ h => ⟨h.1, h.2.out⟩

end Go.Proofs.Ytgjlkplieoajlaa
