/- A map of one entry, keyed by 1: what the operations do to it. -/
import Derived.Test.YtahaclglkbgpcaaDoorBase
import Derived.Test.YtahaclglkbgpcaaDoorFq0
import Derived.Maps.Own
import Derived.WideMake
set_option linter.unusedVariables false
set_option linter.unusedSimpArgs false
namespace Go.Proofs.YtahaclglkbgpcaaDoor
open Go.RowKit
set_option maxRecDepth 100000

/-- Block b is a map of one entry, at 1. -/
def M1e (W : World) (b : Nat) (v : Value) : Prop := ∃ n, W.heap[b]? = some (.map #[{ key := .int .i64 1, val := v, born := n }] (n + 1))

/-- The block b is turned into a map of that entry. -/
def put1 (W : World) (b : Nat) (v : Value) (n : Nat) : World := { W with heap := W.heap.setIfInBounds b (.map #[{ key := .int .i64 1, val := v, born := n }] (n + 1)) }
theorem put1_at {W : World} {b : Nat} {o : Obj} (v : Value) (n : Nat) (hb : W.heap[b]? = some o) : M1e (put1 W b v n) b v := by
  have hl : b < W.heap.size := (Array.getElem?_eq_some_iff.1 hb).1
  exact ⟨n, by simp [put1, hl]⟩
theorem put1_chg (W : World) (b : Nat) (v : Value) (n : Nat) : Chg (fun k => k = b) W (put1 W b v n) :=
  ⟨rfl, rfl, rfl, by simp [put1], fun k hk hn => by simp [put1, Array.getElem?_setIfInBounds_ne (Ne.symm hn)]⟩
theorem M1e.chg {W W' : World} {b : Nat} {v : Value} (h : M1e W b v) {S : Nat → Prop} (hc : Chg S W W') (hn : ¬ S b) : M1e W' b v := by
  obtain ⟨n, h⟩ := h
  exact ⟨n, hc.heap h hn⟩
theorem M1e.below {W W' : World} {b : Nat} {v : Value} (h : M1e W b v) (hb : Below W.heap.size W W') : M1e W' b v := h.chg (Chg.ofBelow hb (fun _ => False)) (fun f => f)
theorem ck1 (e : Bool) (W : World) : (Instr.checkKey e 10000 33 (.int .i64 1)).run Tryd.prog W = .ok () W := MapKept.run_checkKey (k := .int .i64 1) Tryd.underlying33 (by simp [MapKept.IsKey]) e 9999
theorem fn1 (v : Value) (n : Nat) : Instr.findNow (.int .i64) (.int .i64 1) [{ key := .int .i64 1, val := v, born := n }] 0 = some (some (0, v)) := rfl
theorem look1 {W : World} {b : Nat} {v : Value} (h : M1e W b v) : Sem.run Tryd.prog (Instr.lookup 62 (.map (some b)) (.int .i64 1) false) W = .ok v W := by
  obtain ⟨n, hb⟩ := h
  simp [Instr.lookup, run_underlying Tryd.underlying62, MapKept.run_getObj_map hb, ck1, MapKept.run_findKey Tryd.underlying33 (fn1 v n), Result.andThen]
theorem look1k {W : World} {b : Nat} {v : Value} (h : M1e W b v) : Sem.run Tryd.prog (Instr.lookup 62 (.map (some b)) (.int .i64 1) true) W = .ok (.tuple #[v, .bool true]) W := by
  obtain ⟨n, hb⟩ := h
  simp [Instr.lookup, run_underlying Tryd.underlying62, MapKept.run_getObj_map hb, ck1, MapKept.run_findKey Tryd.underlying33 (fn1 v n), Result.andThen]
theorem upd1 {W : World} {b : Nat} {v : Value} (v' : Value) (h : M1e W b v) : ∃ n, Sem.run Tryd.prog (Instr.mapUpdate 62 (.map (some b)) (.int .i64 1) v') W = .ok () (put1 W b v' n) := by
  obtain ⟨n, hb⟩ := h
  refine ⟨n, ?_⟩
  simp [Instr.mapUpdate, run_underlying Tryd.underlying62, MapKept.run_getObj_map hb, ck1, MapKept.run_findKey Tryd.underlying33 (fn1 v n), MapKept.run_setObj_map _ hb, Result.andThen, Instr.keyThatStays, Instr.sameBits, put1]
theorem upd0 {W : World} {b : Nat} (v' : Value) {n : Nat} (hb : W.heap[b]? = some (.map #[] n)) : Sem.run Tryd.prog (Instr.mapUpdate 62 (.map (some b)) (.int .i64 1) v') W = .ok () (put1 W b v' n) := by
  have hf : Instr.findNow (.int .i64) (.int .i64 1) ([] : List MapEntry) 0 = some none := rfl
  simp [Instr.mapUpdate, run_underlying Tryd.underlying62, MapKept.run_getObj_map hb, ck1, MapKept.run_findKey Tryd.underlying33 hf, MapKept.run_setObj_map _ hb, Result.andThen, put1]

end Go.Proofs.YtahaclglkbgpcaaDoor
