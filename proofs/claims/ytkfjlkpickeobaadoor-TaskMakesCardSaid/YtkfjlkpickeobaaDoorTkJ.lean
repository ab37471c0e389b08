/- Itoa's table, from the row's condition on. -/
import Derived.Test.YtkfjlkpickeobaaDoorTmE
import Derived.Lib.LaidTab
import Derived.Lib.AppendIntMem
import Derived.LaidSub
import Derived.MakeChecks
set_option linter.unusedVariables false
namespace Go.Proofs.YtkfjlkpickeobaaDoor
open Go.RowKit
set_option maxRecDepth 100000

theorem tab_at {W : World} {x y d : DataW Unit} (hd : d = Lib.tabData .u64 Lib.pow10Tab) (h : laidMetH Tryd.prog [("math/bits.deBruijn32tab", x), ("math/bits.deBruijn64tab", y), ("internal/strconv.uint64pow10", d)] W) : Lib.TabIs Tryd.prog W "internal/strconv.uint64pow10" .u64 Lib.pow10Tab := by
  subst hd
  have h1 := h.filter (fun z => z.1 == "internal/strconv.uint64pow10")
  rw [show ([("math/bits.deBruijn32tab", x), ("math/bits.deBruijn64tab", y), ("internal/strconv.uint64pow10", Lib.tabData .u64 Lib.pow10Tab)] : List (String × DataW Unit)).filter (fun z => z.1 == "internal/strconv.uint64pow10") = [("internal/strconv.uint64pow10", Lib.tabData .u64 Lib.pow10Tab)] from by simp] at h1
  rw [MakeChecks.laidMetH_plain _ _ _ (by kernel_rfl)] at h1
  exact Lib.tabIs_of_head (g := 0) (t := 104) (e := 98) (n := 20) (by kernel_rfl) (by kernel_rfl) Tryd.underlying104 Tryd.underlying98 (by kernel_rfl) (by kernel_rfl) h1
theorem tab_below {W W' : World} {nm : String} {k : IntKind} {zs : List Int} (h : Lib.TabIs Tryd.prog W nm k zs) (hb : Below W.heap.size W W') : Lib.TabIs Tryd.prog W' nm k zs := by
  unfold Lib.TabIs World.var? at *
  obtain ⟨g, hg, hm⟩ := Option.bind_eq_some_iff.1 h
  refine Option.bind_eq_some_iff.2 ⟨g, hg, ?_⟩
  have hlt : g < W.heap.size := by
    rcases Nat.lt_or_ge g W.heap.size with k | k
    · exact k
    · rw [Array.getElem?_eq_none k] at hm; cases hm
  rw [hb.block g hlt]
  exact hm
theorem itOk_tab {W : World} (h : Lib.TabIs Tryd.prog W "internal/strconv.uint64pow10" .u64 Lib.pow10Tab) : ItOk okN W.heap.size W := fun n hn W' hW => by
  refine (Tryd.strconv_Itoa n (by have := hn.1; omega) (by have := hn.2; omega) W' (tab_below h hW)).mono ?_
  rintro e w' ⟨rfl, k, os, rfl⟩
  exact ⟨rfl, Lib.below_grow _ W' (Nat.le_refl _) k os⟩

end Go.Proofs.YtkfjlkpickeobaaDoor
