/- Queues of jobs: Push where the ring grows, and the first Push. -/
import Derived.Test.YtahaclglkbgpcaaJq3
import Derived.Laws.CopyOwn
set_option linter.unusedVariables false
set_option linter.unusedSimpArgs false
namespace Go.Proofs.Ytahaclglkbgpcaa
open Go.RowKit
open Go.Proofs.YtahaclglkbgpcaaW.PrintWords (Kd Drawn0 Kept rd rdOf)
open Go.Proofs.Ytahaclglkbgpcaa.PFifoJobs
set_option maxRecDepth 100000

/-- copy into an owned row, elements of any size. -/
theorem run_copy_rowN {P : Program} (w : World) (dT sT ty elem : TypeId) (g o dLen dCap : Nat) (a : Addr) (sLen sCap : Nat) (cur : Array Value) (t : TypeId) (cs : List Value) (sz m : Nat)
    (hu : P.underlying dT = some (.slice elem)) (hs : (P.info? elem).map (·.size) = some sz)
    (hg : w.heap[g]? = some (.cells cur t (0, 0))) (hm : m = Nat.min sLen dLen) (hn : cs.length = m * sz)
    (hsrc : ∀ j v, cs[j]? = some v → w.cell? (a.add j) = some v) (hfit : o + cs.length ≤ cur.size) (h1 : ∀ v ∈ cs, v.oneCell' = true) :
    (Builtin.copy_ #[dT, sT] ty #[.slice (some ⟨g, o, none⟩) dLen dCap, .slice (some a) sLen sCap]).run P w =
      .ok (goInt m) (w.setRow g (cur.toList.take o ++ cs ++ cur.toList.drop (o + cs.length)).toArray) := by
  have hl := run_loadCells_list (P := P) w a cs hsrc
  have hst := run_storeCells_at P g o t cs 0 cur w hg (by simpa using hfit) h1
  cases hq : P.info? elem with
  | none => simp [hq] at hs
  | some i =>
    have hi : i.size = sz := by simpa [hq] using hs
    simp [Builtin.copy_, run_underlying hu, Builtin.lenOf, Builtin.firstCells, sizeOf, typeInfo, hq, hi, ← hm, ← hn, hl, hst]
theorem wpList_copy_ownN {P : Program} {w : World} {ops : Array Oper} {rest : List Oper} {o : Oper} {a : Act} {Q : Exit → Act → World → Prop} (hgd : o.guard = none) (d s : Operand) (dT sT : TypeId)
    (ho : o.op = .call { callee := .builtin .copy, args := #[d, s], argTypes := #[dT, sT] }) (elem : TypeId) (hu : P.underlying dT = some (.slice elem)) (sz m : Nat) (hsz : (P.info? elem).map (·.size) = some sz)
    (g off dLen dCap : Nat) (ad : Addr) (sLen sCap : Nat) (hd : a.eval d = .slice (some ⟨g, off, none⟩) dLen dCap) (hs : a.eval s = .slice (some ad) sLen sCap)
    (cur : Array Value) (t : TypeId) (hg : w.heap[g]? = some (.cells cur t (0, 0))) (cs : List Value) (hm : m = Nat.min sLen dLen) (hn : cs.length = m * sz)
    (hsrc : ∀ j v, cs[j]? = some v → w.cell? (ad.add j) = some v) (hfit : off + cs.length ≤ cur.size) (h1 : ∀ v ∈ cs, v.oneCell' = true)
    (h : wpList P ops Q rest (a.put o.dst (goInt m)) (w.setRow g (cur.toList.take off ++ (cs ++ cur.toList.drop (off + cs.length))).toArray)) : wpList P ops Q (o :: rest) a w := by
  refine wpList_plain hgd fun K hK => ?_
  have hrun := run_copy_rowN (P := P) w dT sT o.type elem g off dLen dCap ad sLen sCap cur t cs sz m hu hsz hg hm hn hsrc hfit h1
  unfold Oper.wp
  simp [execOp, ho, resolve, invoke, builtin, hd, hs, hrun, Result.andThen]
  exact hK _ _ h

/-- Jobs laid cell by cell. -/
def flatJ (xs : List Jb) : List Value := xs.flatMap cJ
theorem flatJ_len : ∀ xs : List Jb, (flatJ xs).length = xs.length * 4
  | [] => rfl
  | x :: xs => by simp [flatJ, List.flatMap_cons] at *; have := flatJ_len xs; simp [flatJ] at this; omega
theorem flatJ_one (xs : List Jb) : ∀ v ∈ flatJ xs, v.oneCell' = true := by
  intro v hv
  simp only [flatJ, List.mem_flatMap] at hv
  obtain ⟨x, -, hx⟩ := hv
  simp at hx
  rcases hx with rfl | rfl | rfl | rfl <;> rfl
/-- The row of jobs, cell by cell. -/
theorem kJ_inner {w : World} {base e : Nat} {ok : Nat → Prop} {v : Value} {xs : List Jb} (h : kJ.R e w base ok v xs) : w.ownsRow base e 4 v xs.length (flatJ xs) := by
  obtain ⟨_, inner, ho, hr⟩ := h
  have key : ∀ (ps : List Jb) (cs : List Value), cs.length = ps.length * 4 → (∀ (j : Nat) (p : Jb), ps[j]? = some p → (cs.drop (j * 4)).take 4 = cJ p) → cs = flatJ ps := by
    intro ps
    induction ps with
    | nil => intro cs hl _; exact List.eq_nil_of_length_eq_zero (by simpa using hl)
    | cons p ps ih =>
      intro cs hl hc
      have h0 := hc 0 p rfl
      simp only [Nat.zero_mul, List.drop_zero] at h0
      have hd := ih (cs.drop 4) (by simp at hl ⊢; omega) (fun j q hq => by
        have := hc (j + 1) q (by simpa using hq)
        rw [List.drop_drop]
        rw [show 4 + j * 4 = (j + 1) * 4 by omega]
        exact this)
      have : cs = cs.take 4 ++ cs.drop 4 := (List.take_append_drop 4 cs).symm
      rw [this, h0, hd]
      rfl
  have e2 : inner = flatJ xs := key xs inner hr.1 (fun j p hp => k48_openM (hr.2 j p hp))
  rw [e2] at ho
  exact ho
theorem kJ_of_own {w : World} {base e : Nat} {ok : Nat → Prop} {v : Value} {xs : List Jb} (ho : w.ownsRow base e 4 v xs.length (flatJ xs)) (hok : ∀ k, v.ownBlock = some k → ok k) : kJ.R e w base ok v xs := by
  refine ⟨hok, flatJ xs, ho, ⟨flatJ_len xs, ?_⟩⟩
  have key : ∀ (ps : List Jb) (j : Nat) (p : Jb), ps[j]? = some p → ((flatJ ps).drop (j * 4)).take 4 = cJ p := by
    intro ps
    induction ps with
    | nil => intro j p hp; simp at hp
    | cons x ps ih =>
      intro j p hp
      cases j with
      | zero => simp at hp; subst hp; rfl
      | succ j =>
        have e : flatJ (x :: ps) = cJ x ++ flatJ ps := rfl
        rw [e, show (j + 1) * 4 = (cJ x).length + j * 4 by simp; omega, List.drop_length_add_append]
        exact ih j p (by simpa using hp)
  intro j p hp
  show kJ.M w base _ p (((flatJ xs).drop (j * 4)).take 4)
  rw [key xs j p hp]
  exact k48_mkM _ _ _ _
theorem jl_grow {xs : List Jb} {n n' : Nat} (x : Jb) (hA : xs.length = n) (hl : n < n') : jl ((xs ++ List.replicate (n' - n) zJ).set n x) n' 0 (n + 1) = xs ++ [x] := by
  apply List.ext_getElem?
  intro i
  have hlen : (xs ++ List.replicate (n' - n) zJ).length = n' := by simp; omega
  by_cases h1 : i < n
  · have h2 : i % n' = i := Nat.mod_eq_of_lt (by omega)
    simp [jl, List.getElem?_map, List.getElem?_range, show i < n + 1 by omega, h2, List.getElem?_set, show n ≠ i by omega, List.getElem?_append, show i < xs.length by omega]
  · by_cases h3 : i = n
    · subst h3
      have h2 : i % n' = i := Nat.mod_eq_of_lt (by omega)
      have h4 : i < (xs ++ List.replicate (n' - i) zJ).length := by omega
      simp [jl, List.getElem?_map, List.getElem?_range, h2, hA, List.getElem?_append_right, List.getElem?_set, hl]
      rw [if_pos (by omega)]; rfl
    · rw [List.getElem?_eq_none (by rw [jl_length]; omega), List.getElem?_eq_none (by simp; omega)]

end Go.Proofs.Ytahaclglkbgpcaa
