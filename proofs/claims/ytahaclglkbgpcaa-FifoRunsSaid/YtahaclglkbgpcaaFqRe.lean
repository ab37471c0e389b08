/- tithelaw04.do, whole. -/
import Derived.Test.YtahaclglkbgpcaaFqRd0
import Derived.Test.YtahaclglkbgpcaaFqRd3
import Derived.Test.YtahaclglkbgpcaaFqRd4
import Derived.Test.YtahaclglkbgpcaaFqRd5
import Derived.Test.YtahaclglkbgpcaaFqRd6
import Derived.Test.YtahaclglkbgpcaaFqRd7
set_option linter.unusedVariables false
namespace Go.Proofs.Ytahaclglkbgpcaa
open Go.RowKit Go.Shelf

theorem do_ok {q lim n c : Nat} {a : Option Addr} {K I V : Int} {zs : List Int} {S : Nat → Prop} {w : World} (hQ : Qu IsI 84 3 w q lim (zs.map (Value.int .i64)) S) (hR : RL w 0 a n c zs) (hd : ∀ k, (Value.slice a n c).ownBlock = some k → ¬ S k) :
    Calls Try.prog 29 #[.pointer (some ⟨q, 0, none⟩), .agg #[.int .i64 (lim : Int), .slice a n c], .agg #[.int .i64 K, .int .i64 I, .int .i64 V]] w fun e w' => ∃ a' n' c' zs', e = .returned (.tuple #[.agg #[.int .i64 (lim : Int), .slice a' n' c'], .bool true]) ∧ After q lim S w w' a' n' c' zs' := by
  obtain ⟨kd, hkd, hk⟩ := kind_of K
  have h : kd = 0 ∨ kd = 1 ∨ kd = 2 ∨ kd = 3 ∨ kd = 4 ∨ kd = 5 ∨ kd = 6 ∨ kd = 7 := by omega
  rcases h with rfl | rfl | rfl | rfl | rfl | rfl | rfl | rfl
  · exact do_push hkd (.inl rfl) hQ hR hd
  · exact do_push hkd (.inr (.inl rfl)) hQ hR hd
  · exact do_push hkd (.inr (.inr rfl)) hQ hR hd
  · exact do_pop hkd rfl hQ hR hd
  · exact do_put hkd rfl hQ hR hd
  · exact do_drop hkd rfl hQ hR hd
  · exact do_keep hkd rfl hQ hR hd
  · exact do_look hkd rfl hQ hR hd
end Go.Proofs.Ytahaclglkbgpcaa
