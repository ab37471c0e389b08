/- The law's step: one thing done to a table and to the reference's. Printed by gen_sl_step.py (this repo's). -/
import Derived.Test.YtgjlkplieoajlaaDoorSlb
set_option linter.unusedVariables false
set_option linter.unusedSimpArgs false
namespace Go.Proofs.YtgjlkplieoajlaaDoor
open Go.RowKit
open Go.Proofs.YtgjlkplieoajlaaDoorW.PrintWords (Kd Drawn0 Kept rd rdOf)
open Go.Proofs.YtgjlkplieoajlaaDoor.PSlotsTwins
set_option maxRecDepth 100000

/-- What num tells of an error. -/
def NumV (ev : Value) (er : Int) : Prop := (ev = .nilIface ∧ er = 0) ∨ ev = .iface 85 (.int .i64 er)
theorem num_any {ev : Value} {er : Int} (h : NumV ev er) (w : World) (hL : Laid w) : Calls Tryd.prog 11 #[ev] w fun e w' => e = .returned (.int .i64 er) ∧ Below w.heap.size w w' := by
  rcases h with ⟨rfl, rfl⟩ | rfl
  · exact num03_nil w
  · exact num03_err er w hL
theorem Laid.chg {w w' : World} {S : Nat → Prop} (h : Laid w) (hc : Chg S w w') (hn : ¬ S 0) : Laid w' := by
  unfold Laid at h ⊢
  have := hc.block _ (Laid.lt h) hn
  simpa [World.cell?, this] using h

section
variable {w : World} {t g n cap : Nat} {kind : Int} {xs : List Sl}
theorem chg_q {w w' : World} {S : Nat → Prop} (h : ∃ m, w' = w.drewN m) : Chg S w w' := by
  obtain ⟨m, rfl⟩ := h
  exact (Chg.refl S w).drewN m
theorem TB.q {w' : World} (h : TB w t g n cap kind xs) (hd : ∃ m, w' = w.drewN m) : TB w' t g n cap kind xs := by
  obtain ⟨m, rfl⟩ := hd
  exact h.drewN m

theorem first_free : ∀ (xs : List Sl), (∃ (i : Nat) (x : Sl), xs[i]? = some x ∧ FreeSl x ∧ ∀ (j : Nat) (y : Sl), j < i → xs[j]? = some y → ¬ FreeSl y) ∨ (∀ (j : Nat) (y : Sl), xs[j]? = some y → ¬ FreeSl y)
  | [] => .inr (fun j y h => by simp at h)
  | x :: r => by
    by_cases hx : FreeSl x
    · exact .inl ⟨0, x, rfl, hx, fun j y h => by omega⟩
    · rcases first_free r with ⟨i, y, h1, h2, h3⟩ | h
      · refine .inl ⟨i + 1, y, h1, h2, ?_⟩
        intro j z hj hz
        match j with
        | 0 => simp at hz; subst hz; exact hx
        | j + 1 => exact h3 j z (by omega) hz
      · refine .inr ?_
        intro j z hz
        match j with
        | 0 => simp at hz; subst hz; exact hx
        | j + 1 => exact h j z hz

theorem add_any (hT : Tk kind n xs) (v : Int) : ∃ (ys : List Sl) (h er : Int) (ev : Value), NumV ev er ∧ Tk kind n ys ∧ titheref03_Add.f 5000 kind (gens xs) (tks xs) (ths xs) v = some (kind, gens ys, tks ys, ths ys, h, er) ∧
    ∀ w, TB w t g n cap kind xs → Calls Tryd.prog 15 #[.pointer (some ⟨t, 0, none⟩), .int .i64 v] w fun e w' => e = .returned (.tuple #[.int .i64 h, ev]) ∧ TB w' t g n cap kind ys ∧ Chg (fun k => k = g) w w' := by
  rcases first_free xs with ⟨i, x, h1, h2, h3⟩ | h
  · exact ⟨_, _, _, _, .inl ⟨rfl, rfl⟩, hT.set i ⟨x.f0, true, v⟩ (hT.gen i x h1).1 (hT.gen i x h1).2 (fun _ => h2.2), radd_hit hT h1 h2 h3, fun w H => add_hit t g n cap i kind v xs x w H hT h1 h2 h3⟩
  · refine ⟨xs, _, _, _, .inr rfl, hT, radd_none hT h, fun w H => (add_full t g n cap kind v xs w H hT h).mono ?_⟩
    rintro e w' ⟨rfl, rfl⟩
    exact ⟨rfl, H, Chg.refl _ w⟩

theorem get_any (hT : Tk kind n xs) (h : Int) : ∃ (r er : Int) (ev : Value), NumV ev er ∧ titheref03_Get.f 5000 kind (gens xs) (tks xs) (ths xs) h = some (r, er) ∧
    ∀ w, TB w t g n cap kind xs → Calls Tryd.prog 16 #[.pointer (some ⟨t, 0, none⟩), .int .i64 h] w fun e w' => e = .returned (.tuple #[.int .i64 r, ev]) ∧ TB w' t g n cap kind xs ∧ Chg (fun k => k = g) w w' := by
  rcases at_or kind h xs with ⟨i, x, ha⟩ | ha
  · exact ⟨_, _, _, .inl ⟨rfl, rfl⟩, rget_hit hT ha, fun w H => (get_hit t g n cap i kind h xs x w H hT ha).mono fun _ _ k => ⟨k.1, H.q k.2, chg_q k.2⟩⟩
  · exact ⟨_, _, _, .inr rfl, rget_none hT ha, fun w H => (get_miss t g n cap kind h xs w H hT ha).mono fun _ _ k => ⟨k.1, H.q k.2, chg_q k.2⟩⟩

theorem set_any (hT : Tk kind n xs) (h v : Int) : ∃ (ys : List Sl) (er : Int) (ev : Value), NumV ev er ∧ Tk kind n ys ∧ titheref03_Set.f 5000 kind (gens xs) (tks xs) (ths xs) h v = some (kind, gens ys, tks ys, ths ys, er) ∧
    ∀ w, TB w t g n cap kind xs → Calls Tryd.prog 17 #[.pointer (some ⟨t, 0, none⟩), .int .i64 h, .int .i64 v] w fun e w' => e = .returned ev ∧ TB w' t g n cap kind ys ∧ Chg (fun k => k = g) w w' := by
  rcases at_or kind h xs with ⟨i, x, ha⟩ | ha
  · exact ⟨_, _, _, .inl ⟨rfl, rfl⟩, hT.set i ⟨x.f0, x.f1, v⟩ (hT.gen i x ha.1).1 (hT.gen i x ha.1).2 (hT.top i x ha.1), rset_hit hT ha, fun w H => set_hit t g n cap i kind h v xs x w H hT ha⟩
  · exact ⟨xs, _, _, .inr rfl, hT, rset_none hT ha, fun w H => (set_miss t g n cap kind h v xs w H hT ha).mono fun _ _ k => ⟨k.1, H.q k.2, chg_q k.2⟩⟩

theorem drop_any (hT : Tk kind n xs) (h : Int) : ∃ (ys : List Sl) (er : Int) (ev : Value), NumV ev er ∧ Tk kind n ys ∧ titheref03_Drop.f 5000 kind (gens xs) (tks xs) (ths xs) h = some (kind, gens ys, tks ys, ths ys, er) ∧
    ∀ w, TB w t g n cap kind xs → Calls Tryd.prog 14 #[.pointer (some ⟨t, 0, none⟩), .int .i64 h] w fun e w' => e = .returned ev ∧ TB w' t g n cap kind ys ∧ Chg (fun k => k = g) w w' := by
  rcases at_or kind h xs with ⟨i, x, ha⟩ | ha
  · have hg := hT.gen i x ha.1
    have hf := hT.top i x ha.1 ha.2.1
    exact ⟨_, _, _, .inl ⟨rfl, rfl⟩, hT.set i ⟨x.f0 + 1, false, 0⟩ (by show 1 ≤ x.f0 + 1; omega) (by show x.f0 + 1 ≤ 1024; omega) (fun f => by simp at f), rdrop_hit hT ha, fun w H => drop_hit t g n cap i kind h xs x w H hT ha⟩
  · exact ⟨xs, _, _, .inr rfl, hT, rdrop_none hT ha, fun w H => (drop_miss t g n cap kind h xs w H hT ha).mono fun _ _ k => ⟨k.1, H.q k.2, chg_q k.2⟩⟩
end

theorem keepc {S : Nat → Prop} {w w1 : World} (hc : Chg S w w1) {b o : Nat} {v : Value} (hn : ¬ S b) (h : w.cell? ⟨b, o, none⟩ = some v) : w1.cell? ⟨b, o, none⟩ = some v := by
  have := hc.block b (World.block_lt_of_cell? w _ h) hn
  simpa [World.cell?, this] using h
theorem keepfc {S : Nat → Prop} {w w1 : World} (hc : Chg S w w1) {b o : Nat} {v : Bool} (hn : ¬ S b) (hlt : b < w.heap.size) (h : w.frozen? ⟨b, o, none⟩ = v) : w1.frozen? ⟨b, o, none⟩ = v := by
  have := hc.block b hlt hn
  simpa [World.frozen?, this] using h

end Go.Proofs.YtgjlkplieoajlaaDoor
