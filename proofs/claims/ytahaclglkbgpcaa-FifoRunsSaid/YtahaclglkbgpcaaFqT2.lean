/- A range over a queue that its body pushes into: a law where the iterator may lean on the caller's word. -/
import Derived.RangeFuncWrites
import Derived.Test.YtahaclglkbgpcaaFqT1
set_option linter.unusedVariables false
set_option linter.unusedSimpArgs false
namespace Go.Proofs.Ytahaclglkbgpcaa
open Go.RowKit Go.Shelf
set_option maxRecDepth 100000
attribute [local go_sem] Oper.semAt_some

/-- An iterator's contract, of callers that keep the word T between its rounds. -/
def SeqT {α : Type} (n : Nat) (P : Program) (g : Nat) (lb : Array Value) (encs : α → Array Value) (Ok : List α → α → Prop) (T : List α → World → Prop) (S : List α → Prop) (w : World) : Prop :=
  ∀ (l : Nat) (J : List α → World → Prop) (W : World), Below w.heap.size w W → AbidesFrom W.heap.size J → (∀ pre W1, J pre W1 → T pre W1) →
    (∀ pre x W1, J pre W1 → Ok pre x → YieldAt Fence.wide (n - 1) P l (encs x) W1 fun e W' => e = .returned (.bool true) ∧ J (pre ++ [x]) W') →
    J [] W → CallsIn Fence.wide n P g (#[.func (.yield l) #[] #[]] ++ lb) W fun e W' => (∃ v, e = .returned v) ∧ ∃ xs, S xs ∧ J xs W'

/-- How a round's body ends: it goes on; what is no cells stays. -/
def goesOn (B : Nat) (R : World → Prop) (W : World) : Exit → Act → World → Prop := fun e _ W' => match e with
  | .normal => KeepsFrom B W W' ∧ R W'
  | _ => False

theorem range_T {α : Type} {n : Nat} {P : Program} {g : Operand} {ps : Array Tmp} {assign body : Code} {Q : Exit → Act → World → Prop} {a : Act} {w : World} (h1 : 1 ≤ n) {gf : Nat} {lb : Array Value}
    (hg : a.eval g = .func (.func gf) #[] lb) (eg : ∀ args w, (callFunc gf args).run P w = .ok (.enter gf args) w)
    {encs : α → Array Value} {Ok : List α → α → Prop} {T : List α → World → Prop} {S : List α → Prop} (hseq : SeqT (n - 1) P gf lb encs Ok T S w) (hps : ∀ x, (encs x).size = ps.size)
    (I : List α → World → Prop) (hI : OwnFrom w.heap.size I) (hT : ∀ pre W, I pre W → T pre W) (h0 : I [] w) (a₁ : α → Act)
    (hassign : ∀ (l : Nat) (x : α) (W : World) (K : Act → World → Prop), K (a₁ x) W →
      assign.wpIn (Fence.wide.inRound l) (n - 1 - 1) P (Exit.then K (fun _ _ _ => False)) { tmps := (ps.zip (encs x)).foldl (fun t (p, v) => t.setIfInBounds p v) a.tmps, defers := [] } W)
    (hbody : ∀ (l : Nat) (pre : List α) (x : α) (W : World), I pre W → Ok pre x → body.wpIn (Fence.wide.inRound l) (n - 1 - 1) P (goesOn w.heap.size (I (pre ++ [x])) W) (a₁ x) W)
    (hdone : ∀ (D : Nat) (xs : List α) (W : World), w.heap.size ≤ D → S xs → I xs W → W.heap[D]? = some (.deferred (some [])) → Q .normal { a with defers := { target := .collected D, args := #[] } :: a.defers } W) :
    (Code.rangeFunc g ps assign body).wpIn Fence.wide n P Q a w := by
  refine wpIn_rangeFunc ?_
  intro fn hfn
  show _
  obtain ⟨rec, hrec⟩ : ∃ rec : LoopState → Option Code → Loop, rec = fun st pe => { state := st, pending := pe, fn, tmps := a.tmps, params := ps, assign, body, defers := w.heap.size } := ⟨_, rfl⟩
  obtain ⟨L, hL⟩ : ∃ L, L = w.heap.size + 1 := ⟨_, rfl⟩
  obtain ⟨W1, hW1⟩ : ∃ W1, (w.alloc (.deferred (some []))).alloc (.loop (rec .ready none)) = W1 := ⟨_, rfl⟩
  have hR1 : W1.heap[L]? = some (.loop (rec .ready none)) := by
    rw [← hW1, hL]; have := World.alloc_heap_new (w.alloc (.deferred (some []))) (.loop (rec .ready none)); rwa [World.size_alloc] at this
  have hD1 : W1.heap[w.heap.size]? = some (.deferred (some [])) := by
    rw [← hW1]; exact (Below.heap_alloc _ _ _ (by simp)).trans (World.alloc_heap_new w _)
  have hI1 : I [] W1 := by rw [← hW1]; exact hI.alloc _ (hI.alloc _ h0)
  have hb1 : Below w.heap.size w W1 := by rw [← hW1]; exact ((Below.refl _ w).alloc (Nat.le_refl _) _).alloc (by simp) _
  have hs1 : w.heap.size ≤ W1.heap.size := hb1.size
  refine ⟨L, [{ target := .collected w.heap.size, args := #[] }], W1, { target := .fn (.func gf) lb, args := #[.func (.yield L) #[] #[]] }, W1, gf, #[.func (.yield L) #[] #[]] ++ lb, W1, ?_, ?_, ?_, ?_, fun _ => h1, ?_⟩
  · rw [← hW1, hrec, hL]; exact run_enterLoop_outer _ _ _ _ _
  · simp only [resolve, hg]
    simp [go_sem]
  · intro f' _; trivial
  · simp [invoke, go_sem, eg]
  · have away : ∀ {A : World} {row : Option Nat}, (∀ r, row = some r → W1.heap.size ≤ r ∧ ∃ o : Obj, A.heap[r]? = some o ∧ o.isWalk = true) → ∀ r, row = some r → w.heap.size ≤ r ∧ ∃ o : Obj, A.heap[r]? = some o ∧ o.isCells = false :=
      fun hr r e => by obtain ⟨hB, o, ho, hw⟩ := hr r e; exact ⟨Nat.le_trans hs1 hB, o, ho, Obj.not_cells_of_walk hw⟩
    refine (hseq L (fun pre W => I pre W ∧ W.heap[L]? = some (.loop (rec .ready none)) ∧ W.heap[w.heap.size]? = some (.deferred (some []))) W1 hb1
      (fun s A B row hs hg' hr => ⟨hI s A B row hs.1 hg' (away hr), (grownBy_keeps hg' (fun r e => (hr r e).2) hs.2.1 rfl).trans hs.2.1, (grownBy_keeps hg' (fun r e => (hr r e).2) hs.2.2 rfl).trans hs.2.2⟩)
      (fun pre W h => hT pre W h.1) ?_ ⟨hI1, hR1, hD1⟩).mono ?_
    · rintro pre x W ⟨hi, hl, hk⟩ hok
      have hlt : L < W.heap.size := (Array.getElem?_eq_some_iff.1 hl).1
      have hy := run_yield (P := P) (args := encs x) hl (by rw [hrec]; exact hps x)
      rw [hrec] at hy
      refine ⟨fn, _, assign, body, hy, roundIn_of_wpIn hfn (hassign _ x W _ ⟨_, run_beginRound hl (by rw [hrec]), ?_⟩)⟩
      have hl2 : (W.putObj L (.loop { rec .ready none with state := .busy })).heap[L]? = some (.loop { rec .ready none with state := .busy }) := World.putObj_heap_same hlt
      have hk2 : (W.putObj L (.loop { rec .ready none with state := .busy })).heap[w.heap.size]? = some (.deferred (some [])) := (World.putObj_heap_other (by omega)).trans hk
      refine wpIn_mono (hbody _ pre x _ (hI.putObj _ hi (by omega) hl rfl) hok) ?_
      rintro e a3 W3 hp
      cases e with
      | normal =>
        obtain ⟨hk3, hi3⟩ := hp
        have hl3 := hk3.same _ _ (by omega) hl2 rfl
        have hr := run_endRound (P := P) none hl3
        have hl4 : (W3.putObj L (.loop (rec .ready none))).heap[L]? = some (.loop (rec .ready none)) := World.putObj_heap_same (Array.getElem?_eq_some_iff.1 hl3).1
        have hk4 : (W3.putObj L (.loop (rec .ready none))).heap[w.heap.size]? = some (.deferred (some [])) := (World.putObj_heap_other (by omega)).trans (hk3.same _ _ (Nat.le_refl _) hk2 rfl)
        have hi4 : I (pre ++ [x]) (W3.putObj L (.loop (rec .ready none))) := hI.putObj _ hi3 (by omega) hl3 rfl
        rw [hrec] at hr hl4 hk4 hi4 ⊢
        exact ⟨_, _, hr, rfl, hi4, hl4, hk4⟩
      | ret => exact hp.elim
      | exit id => exact hp.elim
      | goto t => exact hp.elim
      | panic ch => exact hp.elim
      | outgrown => exact hp.elim
    · rintro e W2 ⟨⟨v, rfl⟩, xs, hS, hi, hl, hk⟩
      exact ⟨none, _, by have := run_endLoop (P := P) hl (by rw [hrec]; simp); rw [hrec] at this; exact this, hdone _ xs _ (Nat.le_refl _) hS (hI.putObj _ hi (by omega) hl rfl) ((World.putObj_heap_other (by omega)).trans hk)⟩

/-- The caller's word: the box holds the queue, and behind these rounds it has so many elements. -/
def TT (Bs q lim : Nat) (many : Nat → Nat) (pre : List (Nat × Int)) (W : World) : Prop :=
  W.cell? ⟨Bs, 0, none⟩ = some (.pointer (some ⟨q, 0, none⟩)) ∧ ∃ zs, QZ (fun _ => False) W q lim zs ∧ zs.length = many pre.length

set_option maxHeartbeats 1000000 in
theorem all1_T (n : Nat) (hn : 1 ≤ n) (Bs q lim : Nat) (many : Nat → Nat) (hmon : ∀ k, many k ≤ many (k + 1)) (w : World) :
    SeqT n Try.prog 53 #[.pointer (some ⟨Bs, 0, none⟩)] (fun x : Nat × Int => #[.int .i64 (x.1 : Int), .int .i64 x.2]) (fun pre x => x.1 = pre.length ∧ pre.length < 4096) (TT Bs q lim many) (fun xs => xs.length = many xs.length) w := by
  intro l J W hb hJ hT hY h0
  refine callsIn_of_wp Try.func53 rfl trivial ?_ rfl
  simp only [Try.ntmps53, List.size_toArray, List.length_cons, List.length_nil, Nat.reduceAdd, Nat.reduceSub, Array.replicate_succ, Array.replicate_zero, List.push_toArray, List.append_toArray, List.nil_append, List.cons_append]
  gi_wp2
  gi_loopw [3] (fun i wr => ∃ k : Nat, i = .int .i64 k ∧ k ≤ 4096 ∧ k ≤ many k ∧ Hid (∃ pre, pre.length = k ∧ J pre wr)) (fun i _ => 4096 - (intOf i).toNat)
  case atStart => exact ⟨0, rfl, Nat.zero_le _, Nat.zero_le _, Lib.hid ⟨[], rfl, h0⟩⟩
  case round =>
    obtain ⟨k, rfl, hk4, hkm, hJs⟩ := hrel
    obtain ⟨pre, hpl, hJp⟩ := hJs.out
    obtain ⟨hBx, zs, hQ, hz⟩ := hT _ _ hJp
    rw [hpl] at hz
    have c2 := hQ.c2
    by_cases hlt : k < zs.length
    · obtain ⟨g, nn, cap, first, c0, c1, f1, f2, f3, hx⟩ := hQ.ring hlt
      have hk5 : k < 4096 := by omega
      obtain ⟨m, hm⟩ : ∃ m, m = (first + k) % nn := ⟨_, rfl⟩
      have hmn : m < nn := by rw [hm]; exact Nat.mod_lt _ (by omega)
      rw [← hm] at hx
      obtain ⟨x, hxv⟩ : ∃ x, x = zs[k]?.getD 0 := ⟨_, rfl⟩
      rw [← hxv] at hx
      have A : ∀ w2 : World, w2.heap = wr.heap → CallsIn Fence.wide (n - 1) Try.prog 46 #[.pointer (some ⟨q, 0, none⟩), .int .i64 k] w2 fun e w' => e = .returned (.int .i64 (m : Int)) ∧ ∃ d, w' = w2.drewN d := fun w2 e => by
        have e2 : ∀ p, w2.cell? p = wr.cell? p := fun p => by simp [World.cell?, e]
        have := at_q q _ cap k first nn w2 f2 f1 (by omega) (by rw [e2]; exact c0) (by rw [e2]; exact c1)
        rw [← hm] at this
        exact callsIn_wide.2 this
      have HA := Lib.hid A
      have Y : ∀ D : Nat, YieldAt Fence.wide (n - 1) Try.prog l #[.int .i64 (k : Int), .int .i64 x] (wr.drewN D) fun e W' => e = .returned (.bool true) ∧ ∃ pre, pre.length = k + 1 ∧ J pre W' := fun D => by
        have h := hY pre (k, x) (wr.drewN D) (hJ _ _ _ none hJp (grown_drewN wr D) (fun r e => by cases e)) ⟨hpl.symm, by rw [hpl]; exact hk5⟩
        refine h.mono ?_
        rintro e W' ⟨rfl, h1⟩
        exact ⟨rfl, _, by rw [List.length_append, hpl]; rfl, h1⟩
      have HY := Lib.hid Y
      clear Y
      have HQ := Lib.hid hQ
      clear hm hxv hQ A hJp hJs
      have mixed : Try.prog.follows Departure.mixedOrders = true := by kernel_rfl
      gi_wp2_with (refine ⟨trivial, ?_⟩; gi_at_call 45; refine (callsIn_wide.2 (has_t q k zs.length _ c2 (by omega) (by omega))).mono ?_; rintro e w' ⟨rfl, rfl⟩)
      gi_region_with_o (first
        | (refine ⟨trivial, ?_⟩; gi_at_call 46; refine (HA.out wr.drew rfl).mono ?_; rintro e w' ⟨rfl, d, rfl⟩; obtain ⟨fn, tmps, assign, body, hy, hR⟩ := HY.out (1 + d))
        | (refine hR.mono ?_; clear hR; rintro e W3 ⟨rfl, hp⟩)
        | fail)
      all_goals
        have HP1 := Lib.hid hp
        clear hp
        gi_wp2
        go_roundw
        case rel => exact ⟨k + 1, by go_num, by omega, by have := hmon k; omega, HP1⟩
        case measure => simp [intOf]; omega
    · have he : k = zs.length := by omega
      have hle : zs.length ≤ 4096 := by omega
      have HJ := Lib.hid hJp
      have HZ := Lib.hid hz
      have HP := Lib.hid hpl
      clear hJp hz hpl hkm hQ
      subst he
      gi_wp2_with (refine ⟨trivial, ?_⟩; gi_at_call 45; refine (callsIn_wide.2 (has_hi q zs.length zs.length _ c2 (by omega) (by omega))).mono ?_; rintro e w' ⟨rfl, rfl⟩)
      go_end0
      exact ⟨⟨_, rfl⟩, pre, by rw [HP.out]; exact HZ.out, HJ.out⟩
end Go.Proofs.Ytahaclglkbgpcaa
