/- A queue that may be nil: At, Len, Limit; All over it. -/
import Derived.Test.YtahaclglkbgpcaaFqA1
set_option linter.unusedVariables false
set_option linter.unusedSimpArgs false
namespace Go.Proofs.Ytahaclglkbgpcaa
open Go.RowKit Go.Shelf
set_option maxRecDepth 100000
attribute [local go_sem] Oper.semAt_some

theorem at_nil (i : Int) (w : World) :
    Calls Try.prog 40 #[.pointer none, .int .i64 i] w fun e w' => e = .returned (.tuple #[.int .i64 0, .bool false]) ∧ w = w' := by
  go_enter Try.func40, Try.ntmps40
  go_wp2_with fail
  refine (has_nil i _).mono ?_
  rintro e w1 ⟨rfl, rfl⟩
  go_wp2
  go_ret2
  exact ⟨rfl, rfl⟩

theorem at_lo (q : Nat) (i : Int) (w : World) (h0 : i < 0) :
    Calls Try.prog 40 #[.pointer (some ⟨q, 0, none⟩), .int .i64 i] w fun e w' => e = .returned (.tuple #[.int .i64 0, .bool false]) ∧ w = w' := by
  go_enter Try.func40, Try.ntmps40
  go_wp2_with fail
  refine (has_lo q i _ h0).mono ?_
  rintro e w1 ⟨rfl, rfl⟩
  go_wp2
  go_ret2
  exact ⟨rfl, rfl⟩

/-- A queue of ints, or none (as one without room). -/
def QO (U : Nat → Prop) (w : World) (p : Option Addr) (lim : Nat) (zs : List Int) : Prop :=
  (p = none ∧ lim = 0 ∧ zs = []) ∨ ∃ q, p = some ⟨q, 0, none⟩ ∧ QZ U w q lim zs

theorem QZ.sub {U V : Nat → Prop} {w : World} {q lim : Nat} {zs : List Int} (h : QZ U w q lim zs) (hv : ∀ k, k < w.heap.size → V k → U k) : QZ V w q lim zs := by
  obtain ⟨S, h1, h2⟩ := h.ex
  refine ⟨S, h1, fun k hk hv' => h2 k hk (hv k ?_ hv')⟩
  obtain ⟨ring, n, cap, first, cells, e1, e2, e3, e4⟩ := h1
  rcases (e4 k).1 hk with rfl | e
  · exact e1.lt
  · exact (e1.own.lt k e).2

theorem QO.chg {U : Nat → Prop} {a b : World} {p : Option Addr} {lim : Nat} {zs : List Int} (h : QO U a p lim zs) (hb : Chg U a b) : QO U b p lim zs := by
  rcases h with h | ⟨q, e, h⟩
  · exact .inl h
  · exact .inr ⟨q, e, h.chg hb⟩
theorem QO.below {U : Nat → Prop} {a b : World} {p : Option Addr} {lim : Nat} {zs : List Int} (h : QO U a p lim zs) (hb : Below a.heap.size a b) : QO U b p lim zs := h.chg (Chg.ofBelow hb U)

theorem len_o {U : Nat → Prop} (w : World) {p : Option Addr} {lim : Nat} {zs : List Int} (h : QO U w p lim zs) :
    Calls Try.prog 12 #[.pointer p] w fun e w' => e = .returned (.int .i64 (zs.length : Int)) ∧ w = w' := by
  rcases h with ⟨rfl, _, rfl⟩ | ⟨q, rfl, h⟩
  · exact len_nil w
  · exact len_ok q _ w h.c2
theorem limit_o {U : Nat → Prop} (w : World) {p : Option Addr} {lim : Nat} {zs : List Int} (h : QO U w p lim zs) :
    Calls Try.prog 18 #[.pointer p] w fun e w' => e = .returned (.int .i64 (lim : Int)) ∧ w = w' := by
  rcases h with ⟨rfl, rfl, _⟩ | ⟨q, rfl, h⟩
  · exact limit_nil w
  · exact limit_ok q _ w h.c3

/-- At, at every place. -/
theorem at_o {U : Nat → Prop} (w : World) {p : Option Addr} {lim : Nat} {zs : List Int} (h : QO U w p lim zs) (i : Int) :
    Calls Try.prog 40 #[.pointer p, .int .i64 i] w fun e w' => e = .returned (.tuple #[.int .i64 (if 0 ≤ i then zs[i.toNat]?.getD 0 else 0), .bool (decide (0 ≤ i ∧ i < zs.length))]) ∧ Below w.heap.size w w' := by
  have fin : ∀ {v : Int} {b : Bool} {w' : World}, v = (if 0 ≤ i then zs[i.toNat]?.getD 0 else 0) → b = decide (0 ≤ i ∧ i < zs.length) → w = w' → (Ending.returned (.tuple #[.int .i64 v, .bool b]) = .returned (.tuple #[.int .i64 (if 0 ≤ i then zs[i.toNat]?.getD 0 else 0), .bool (decide (0 ≤ i ∧ i < zs.length))])) ∧ Below w.heap.size w w' := by
    rintro v b w' rfl rfl rfl
    exact ⟨rfl, Below.refl _ _⟩
  rcases h with ⟨rfl, _, rfl⟩ | ⟨q, rfl, h⟩
  · refine (at_nil i w).mono ?_
    rintro e w' ⟨rfl, hw⟩
    exact fin (by simp) (by first | (simp; done) | (simp; omega)) hw
  · by_cases h0 : 0 ≤ i
    · by_cases h1 : i < zs.length
      · obtain ⟨k, rfl⟩ : ∃ k : Nat, i = k := ⟨i.toNat, by omega⟩
        have hk : k < zs.length := by omega
        obtain ⟨S, ⟨ring, n, cap, first, cells, e1, e2, e3, e4⟩, _⟩ := h.ex
        have hm := e1.many_le
        rw [List.length_map] at hm e1 e3
        rcases e1.form with ⟨_, rfl, _⟩ | ⟨g, rfl, hg, hf⟩
        · omega
        · have hj : (first + k) % n < n := Nat.mod_lt _ (by omega)
          have hl := e1.len
          have e : (lst cells n first zs.length)[k]? = (zs.map (Value.int .i64))[k]? := by rw [e3]
          simp [lst, hk] at e
          have hx : cells[(first + k) % n]? = some (.int .i64 (zs[k]'hk)) := by
            rw [List.getElem?_eq_getElem (by omega)] at e ⊢
            simp at e
            rw [e]
          refine (at_some q g _ n cap first zs.length lim k cells _ w e1 hf hk hx).mono ?_
          rintro e w' ⟨rfl, hb⟩
          refine ⟨?_, hb⟩
          have d1 : (0 : Int) ≤ (k : Int) := by omega
          rw [if_pos d1]
          simp [hk]
      · refine (at_none q i _ w h.c2 h0 (by omega)).mono ?_
        rintro e w' ⟨rfl, hw⟩
        refine fin ?_ (by simp; omega) hw
        rw [if_pos h0, List.getElem?_eq_none (by omega)]; rfl
    · refine (at_lo q i w (by omega)).mono ?_
      rintro e w' ⟨rfl, hw⟩
      exact fin (by rw [if_neg h0]) (by simp; omega) hw

set_option maxHeartbeats 1000000 in
theorem all1_nil_in (n : Nat) (hn : 1 ≤ n) (l Bs : Nat) (J : List (Nat × Int) → World → Prop) (W : World)
    (hBs : W.cell? ⟨Bs, 0, none⟩ = some (.pointer none)) (h0 : J [] W) :
    CallsIn Fence.wide n Try.prog 53 #[.func (.yield l) #[] #[], .pointer (some ⟨Bs, 0, none⟩)] W fun e W' => (∃ v, e = .returned v) ∧ J [] W' := by
  refine callsIn_of_wp Try.func53 rfl trivial ?_ rfl
  simp only [Try.ntmps53, List.size_toArray, List.length_cons, List.length_nil, Nat.reduceAdd, Nat.reduceSub, Array.replicate_succ, Array.replicate_zero, List.push_toArray, List.append_toArray, List.nil_append, List.cons_append]
  gi_wp2
  gi_loopw [3] (fun i wr => i = .int .i64 0 ∧ wr = W) (fun _ _ => 0)
  case atStart => exact ⟨rfl, rfl⟩
  case round =>
    obtain ⟨rfl, rfl⟩ := hrel
    gi_wp2_with (refine ⟨trivial, ?_⟩; gi_at_call 45; refine (callsIn_wide.2 (has_nil 0 _)).mono ?_; rintro e w' ⟨rfl, rfl⟩)
    go_end0
    exact ⟨⟨_, rfl⟩, h0⟩

theorem all_stops_o (n : Nat) (hn : 1 ≤ n) (Bs : Nat) (p : Option Addr) (lim : Nat) (U : Nat → Prop) (zs : List Int) (w : World) (hb : ¬ U Bs) (hU : ∀ k, w.heap.size ≤ k → U k)
    (hc : w.cell? ⟨Bs, 0, none⟩ = some (.pointer p)) (hq : QO U w p lim zs) :
    SeqStopsK Fence.wide n Try.prog 53 #[.pointer (some ⟨Bs, 0, none⟩)] (fun x : Nat × Int => #[Value.int .i64 (x.1 : Int), Value.int .i64 x.2]) (Chg U) (fun ys => ys = upto zs zs.length)
      (fun pre => ∃ k, k ≤ zs.length ∧ pre = upto zs k) zs.length w := by
  rcases hq with ⟨rfl, rfl, rfl⟩ | ⟨q, rfl, hq⟩
  · exact fun l J Jx W hW hJ _ hY h0 => (all1_nil_in n hn l Bs J W (keep hW hc) h0).mono fun e W' ⟨he, hj⟩ => ⟨he, .inl ⟨_, rfl, hj⟩⟩
  · exact all_stops n hn Bs q lim U zs w hb hU hc hq

end Go.Proofs.Ytahaclglkbgpcaa
