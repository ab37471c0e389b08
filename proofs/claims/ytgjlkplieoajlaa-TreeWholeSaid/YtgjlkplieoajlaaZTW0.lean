/- Of the text TW0 only what this claim needs (shake.py, this repo's). -/
import Derived.Test.YtgjlkplieoajlaaZTR0
set_option linter.unusedVariables false
set_option linter.unusedSimpArgs false
namespace Go.Proofs.Ytgjlkplieoajlaa
open Go.RowKit
set_option maxRecDepth 100000

def parF (xs : List Nk) (h : Int) : Int := match xs[(hs h).toNat]? with
  | some x => x.p
  | none => 0
def pathF (xs : List Nk) : Nat → Int → List Int
  | 0, _ => []
  | k + 1, h => if h = rootH then [h] else pathF xs k (parF xs h) ++ [h]
/-- Does the path of z lead through top, at the place d? -/
def wiB (xs : List Nk) (d : Nat) (top z : Int) : Bool := decide ((pathF xs 9 z)[d]? = some top)
section
variable {xs : List Nk} {dep : Nat → Nat}
theorem TI.par (h : TI xs dep) {z : Int} {i : Nat} {x : Nk} (ha : NAt 1 z xs i x) : parF xs z = x.p := by
  unfold parF
  rw [(nat_slot h.nm ha).1, Int.toNat_natCast, ha.1]
theorem TI.pathF (h : TI xs dep) {z : Int} {l : List Int} (hp : PathIs xs z l) : ∀ k, l.length ≤ k → Proofs.Ytgjlkplieoajlaa.pathF xs k z = l := by
  induction hp with
  | root =>
    intro k hk
    obtain ⟨k, rfl⟩ : ∃ m, k = m + 1 := ⟨k - 1, by simp at hk; omega⟩
    unfold Proofs.Ytgjlkplieoajlaa.pathF
    rw [if_pos rfl]
  | step ha hi hp ih =>
    intro k hk
    obtain ⟨k, rfl⟩ : ∃ m, k = m + 1 := ⟨k - 1, by simp at hk; omega⟩
    unfold Proofs.Ytgjlkplieoajlaa.pathF
    rw [if_neg (h.notRoot ha hi), h.par ha, ih k (by simp at hk; omega)]
theorem TI.path9 (h : TI xs dep) {z : Int} {i : Nat} {x : Nk} {l : List Int} (ha : NAt 1 z xs i x) (hp : PathIs xs z l) : Proofs.Ytgjlkplieoajlaa.pathF xs 9 z = l :=
  h.pathF hp 9 (by have := h.path_len ha hp; have := h.le i x ha.1 ha.2.1; omega)
theorem TI.wi (h : TI xs dep) {z top : Int} {i d : Nat} {x : Nk} {l : List Int} (ha : NAt 1 z xs i x) (hp : PathIs xs z l) : wiB xs d top z = true ↔ l[d]? = some top := by
  unfold wiB
  rw [h.path9 ha hp, decide_eq_true_eq]
/-- A child's path is its parent's, and itself. -/
theorem TI.path_kid (h : TI xs dep) {z a : Int} {i j : Nat} {x y : Nk} (ha : NAt 1 z xs i x) (hb : NAt 1 a xs j y) (e : y.p = z) : ∃ l, PathIs xs z l ∧ PathIs xs a (l ++ [a]) ∧ l.length = dep i + 1 := by
  obtain ⟨l, hl, hn⟩ := h.path (dep i) i x z rfl ha
  exact ⟨l, hl, .step hb (h.kid_dep hb ha e).1 (by rw [e]; exact hl), hn⟩
theorem TI.self (h : TI xs dep) {z : Int} {i : Nat} {x : Nk} (ha : NAt 1 z xs i x) : wiB xs (dep i) z z = true := by
  obtain ⟨l, hl, hn⟩ := h.path (dep i) i x z rfl ha
  rw [h.wi ha hl]
  have := hl.last
  rw [hn] at this
  simpa using this
theorem walk_self (xs : List Nk) (k : Nat) (z : Int) : z ∈ walkF xs k z := by cases k <;> simp [walkF]
theorem walk_kid {p z : Int} (hz : z ∈ kidsF xs p) : ∀ (k : Nat) (h : Int), p ∈ walkF xs k h → z ∈ walkF xs (k + 1) h
  | 0, h, hp => by
    have : p = h := by simpa [walkF] using hp
    subst this
    unfold walkF
    exact List.mem_cons_of_mem _ (List.mem_flatMap.2 ⟨z, hz, walk_self xs 0 z⟩)
  | k + 1, h, hp => by
    unfold walkF at hp
    rcases List.mem_cons.1 hp with rfl | hp
    · unfold walkF
      exact List.mem_cons_of_mem _ (List.mem_flatMap.2 ⟨z, hz, walk_self xs (k + 1) z⟩)
    · obtain ⟨a, hka, hpa⟩ := List.mem_flatMap.1 hp
      have := walk_kid hz k a hpa
      unfold walkF
      exact List.mem_cons_of_mem _ (List.mem_flatMap.2 ⟨a, hka, this⟩)
/-- The walk is the same whatever more fuel it has. -/
theorem TI.walk_more (h : TI xs dep) : ∀ (k : Nat) (z : Int) (i : Nat) (x : Nk), NAt 1 z xs i x → 8 ≤ dep i + k → walkF xs (k + 1) z = walkF xs k z
  | 0, z, i, x, ha, hk => by
    unfold walkF
    rw [h.no_kids ha (by omega)]
    rfl
  | k + 1, z, i, x, ha, hk => by
    have : ∀ a ∈ kidsF xs z, walkF xs (k + 1) a = walkF xs k a := fun a hka => by
      obtain ⟨j, y, hb, e⟩ := mem_kids.1 hka
      exact TI.walk_more h k a j y hb (by have := (h.kid_dep hb ha e).2; omega)
    conv => lhs; unfold walkF
    conv => rhs; unfold walkF
    congr 1
    have gen : ∀ L : List Int, (∀ a ∈ L, a ∈ kidsF xs z) → L.flatMap (walkF xs (k + 1)) = L.flatMap (walkF xs k) := by
      intro L
      induction L with
      | nil => intro _; rfl
      | cons a L il =>
        intro hm
        rw [List.flatMap_cons, List.flatMap_cons, this a (hm a List.mem_cons_self), il (fun b hb => hm b (List.mem_cons_of_mem _ hb))]
    exact gen _ (fun a ha => ha)
theorem TI.walk_any (h : TI xs dep) {z : Int} {i : Nat} {x : Nk} (ha : NAt 1 z xs i x) : ∀ (m k : Nat), 8 ≤ dep i + k → walkF xs (k + m) z = walkF xs k z
  | 0, k, hk => rfl
  | m + 1, k, hk => by rw [← Nat.add_assoc, h.walk_more (k + m) z i x ha (by omega), TI.walk_any h ha m k hk]
theorem TI.walk8 (h : TI xs dep) {z : Int} {i : Nat} {x : Nk} (ha : NAt 1 z xs i x) {k : Nat} (hk : 8 ≤ dep i + k) : walkF xs k z = walkF xs 8 z := by
  rcases Nat.le_total k 8 with c | c
  · have := h.walk_any ha (8 - k) k hk
    rw [show k + (8 - k) = 8 by omega] at this
    exact this.symm
  · obtain ⟨m, rfl⟩ : ∃ m, k = 8 + m := ⟨k - 8, by omega⟩
    exact h.walk_any ha m 8 (by omega)
/-- The walk meets just what is within. -/
theorem TI.walk_mem (h : TI xs dep) {top : Int} {j : Nat} {y : Nk} (ht : NAt 1 top xs j y) : ∀ {z : Int} {l : List Int}, PathIs xs z l → ∀ (i : Nat) (x : Nk), NAt 1 z xs i x → l[dep j]? = some top → z ∈ walkF xs 8 top := by
  intro z l hp
  induction hp with
  | root =>
    intro i x ha hl
    have hd : dep j = 0 := by have := (List.getElem?_eq_some_iff.1 hl).1; simp at this; omega
    rw [hd] at hl
    have : rootH = top := by simpa using hl
    rw [this]
    exact walk_self _ _ _
  | @step z i' x' l0 ha' hi hp ih =>
    intro i x ha hl
    obtain ⟨j2, y2, hb, e⟩ := h.up i' x' hi ha'.1 ha'.2.1
    have hlen := h.path_len hb hp
    by_cases c : dep j < l0.length
    · rw [List.getElem?_append_left c] at hl
      have hm := ih j2 y2 hb hl
      have h9 := walk_kid (xs := xs) (p := x'.p) (z := z) (mem_kids.2 ⟨i', x', ha', rfl⟩) 8 top hm
      rwa [h.walk_more 8 top j y ht (by omega)] at h9
    · have hle : dep j = l0.length := by have := (List.getElem?_eq_some_iff.1 hl).1; simp at this; omega
      rw [List.getElem?_append_right (by omega), hle, Nat.sub_self] at hl
      have : z = top := by simpa using hl
      subst this
      exact walk_self _ _ _
theorem TI.walk_wi (h : TI xs dep) {top z : Int} {j i : Nat} {y x : Nk} (ht : NAt 1 top xs j y) (ha : NAt 1 z xs i x) : z ∈ walkF xs 8 top ↔ wiB xs (dep j) top z = true := by
  obtain ⟨l, hl, -⟩ := h.path (dep i) i x z rfl ha
  rw [h.wi ha hl]
  constructor
  · intro hm
    obtain ⟨-, -, l', -, hl', hx⟩ := h.walk_at 8 top j y ht z hm
    rw [h.path_uniq hl hl']
    exact hx
  · exact fun hx => h.walk_mem ht hl i x ha hx
/-- A child of what is not within is within just if it is the top itself. -/
theorem TI.kid_wi (h : TI xs dep) {top z a : Int} {j i m : Nat} {y x u : Nk} (ht : NAt 1 top xs j y) (ha : NAt 1 z xs i x) (hb : NAt 1 a xs m u) (e : u.p = z) : wiB xs (dep j) top a = true ↔ (wiB xs (dep j) top z = true ∨ a = top) := by
  obtain ⟨l, hl, hla, hn⟩ := h.path_kid ha hb e
  rw [h.wi hb hla, h.wi ha hl]
  constructor
  · intro hx
    by_cases c : dep j < l.length
    · rw [List.getElem?_append_left c] at hx
      exact .inl hx
    · have hle : dep j = l.length := by have := (List.getElem?_eq_some_iff.1 hx).1; simp at this; omega
      rw [List.getElem?_append_right (by omega), hle, Nat.sub_self] at hx
      exact .inr (by simpa using hx)
  · rintro (hx | rfl)
    · rw [List.getElem?_append_left (List.getElem?_eq_some_iff.1 hx).1]
      exact hx
    · have hj := nat_uniq h.nm ht hb
      have := (h.kid_dep hb ha e).2
      rw [hj.1, this, ← hn]
      simp
theorem flatMap_one {L : List Int} {f : Int → List Int} {a : Int} {X : List Int} (hn : L.Nodup) (ha : a ∈ L) (h1 : f a = X) (h2 : ∀ b ∈ L, b ≠ a → f b = []) : L.flatMap f = X := by
  induction L with
  | nil => simp at ha
  | cons b L ih =>
    rw [List.nodup_cons] at hn
    rw [List.flatMap_cons]
    by_cases e : b = a
    · subst e
      have : L.flatMap f = [] := by
        rw [List.flatMap_eq_nil_iff]
        exact fun c hc => h2 c (List.mem_cons_of_mem _ hc) (fun e => hn.1 (e ▸ hc))
      rw [h1, this, List.append_nil]
    · rw [h2 b List.mem_cons_self e, List.nil_append]
      refine ih hn.2 ?_ (fun c hc => h2 c (List.mem_cons_of_mem _ hc))
      rcases List.mem_cons.1 ha with e2 | h
      · exact absurd e2.symm e
      · exact h
theorem filter_flatMap' (p : Int → Bool) (f : Int → List Int) : ∀ L : List Int, (L.flatMap f).filter p = L.flatMap fun a => (f a).filter p
  | [] => rfl
  | a :: L => by rw [List.flatMap_cons, List.flatMap_cons, List.filter_append, filter_flatMap' p f L]
/-- What is taken away: of the whole walk, in its order. -/
theorem TI.gone (h : TI xs dep) {top : Int} {j : Nat} {y : Nk} (ht : NAt 1 top xs j y) : ∀ (k : Nat) (z : Int) (i : Nat) (x : Nk), NAt 1 z xs i x → 8 ≤ dep i + k →
    (top ∈ walkF xs k z → (walkF xs k z).filter (wiB xs (dep j) top) = walkF xs 8 top) ∧ (wiB xs (dep j) top z = false → top ∉ walkF xs k z → (walkF xs k z).filter (wiB xs (dep j) top) = [])
  | k, z, i, x, ha, hk => by
    have hall : wiB xs (dep j) top z = true → top ∈ walkF xs k z → z = top := by
      intro hw hm
      obtain ⟨l, hl, -⟩ := h.path (dep i) i x z rfl ha
      rw [h.wi ha hl] at hw
      obtain ⟨m, u, l', hb, hl', hx⟩ := h.walk_at k z i x ha top hm
      obtain ⟨e1, e2⟩ := nat_uniq h.nm ht hb
      have n1 := h.path_len ha hl
      have n2 := h.path_len hb hl'
      have c1 := (List.getElem?_eq_some_iff.1 hw).1
      have c2 := (List.getElem?_eq_some_iff.1 hx).1
      have e3 : dep i = dep j := by rw [e1] at c1 ⊢; omega
      have := hl.last
      rw [n1, Nat.add_sub_cancel, e3, hw] at this
      simpa using this.symm
    have hself : (walkF xs 8 top).filter (wiB xs (dep j) top) = walkF xs 8 top := List.filter_eq_self.2 (fun q hq => by
      obtain ⟨m, u, l, hb, hl, hx⟩ := h.walk_at 8 top j y ht q hq
      exact (h.wi hb hl).2 hx)
    by_cases hzt : z = top
    · subst hzt
      obtain ⟨rfl, -⟩ := nat_uniq h.nm ht ha
      rw [h.walk8 ha hk]
      exact ⟨fun _ => hself, fun hf => by rw [h.self ha] at hf; simp at hf⟩
    · cases k with
      | zero =>
        have hn : top ∉ walkF xs 0 z := fun hm => hzt (Eq.symm (show top = z by simpa [walkF] using hm))
        refine ⟨fun hm => absurd hm hn, fun hf _ => ?_⟩
        simp [walkF, hf]
      | succ k =>
        have hkid : ∀ a ∈ kidsF xs z, ∃ m u, NAt 1 a xs m u ∧ u.p = z ∧ 8 ≤ dep m + k := fun a hka => by
          obtain ⟨m, u, hb, e⟩ := mem_kids.1 hka
          exact ⟨m, u, hb, e, by have := (h.kid_dep hb ha e).2; omega⟩
        refine ⟨fun hm => ?_, fun hf hn => ?_⟩
        · have hf : wiB xs (dep j) top z = false := by
            cases hw : wiB xs (dep j) top z with
            | false => rfl
            | true => exact absurd (hall hw hm) hzt
          unfold walkF at hm ⊢
          rw [List.filter_cons_of_neg (by simp [hf]), filter_flatMap']
          rcases List.mem_cons.1 hm with e | hm
          · exact absurd e.symm hzt
          · obtain ⟨a, hka, hta⟩ := List.mem_flatMap.1 hm
            obtain ⟨m, u, hb, e, hd⟩ := hkid a hka
            refine flatMap_one (kids_nodup h z) hka ((TI.gone h ht k a m u hb hd).1 hta) (fun b hkb hne => ?_)
            obtain ⟨m', u', hb', e', hd'⟩ := hkid b hkb
            have hnt : top ∉ walkF xs k b := fun htb => by
              obtain ⟨-, -, l1, -, p1, q1⟩ := h.walk_at k a m u hb top hta
              obtain ⟨-, -, l2, -, p2, q2⟩ := h.walk_at k b m' u' hb' top htb
              rw [h.path_uniq p1 p2, (h.kid_dep hb ha e).2] at q1
              rw [(h.kid_dep hb' ha e').2, q1] at q2
              exact hne (by simpa using q2.symm)
            refine (TI.gone h ht k b m' u' hb' hd').2 ?_ hnt
            cases hw : wiB xs (dep j) top b with
            | false => rfl
            | true =>
              rcases (h.kid_wi ht ha hb' e').1 hw with c | c
              · rw [hf] at c; simp at c
              · exact absurd (c ▸ walk_self xs k b) hnt
        · unfold walkF at hn ⊢
          rw [List.filter_cons_of_neg (by simp [hf]), filter_flatMap', List.flatMap_eq_nil_iff]
          intro b hkb
          obtain ⟨m', u', hb', e', hd'⟩ := hkid b hkb
          have hnt : top ∉ walkF xs k b := fun htb => hn (List.mem_cons_of_mem _ (List.mem_flatMap.2 ⟨b, hkb, htb⟩))
          refine (TI.gone h ht k b m' u' hb' hd').2 ?_ hnt
          cases hw : wiB xs (dep j) top b with
          | false => rfl
          | true =>
            rcases (h.kid_wi ht ha hb' e').1 hw with c | c
            · rw [hf] at c; simp at c
            · exact absurd (c ▸ walk_self xs k b) hnt
/-- Everything is below the root. -/
theorem TI.all_in (h : TI xs dep) {z : Int} {i : Nat} {x : Nk} (ha : NAt 1 z xs i x) : z ∈ walkF xs 8 rootH := by
  obtain ⟨l, hl, hn⟩ := h.path (dep i) i x z rfl ha
  refine h.walk_mem h.rootAt hl i x ha ?_
  rw [h.d0]
  have head : ∀ {z : Int} {l : List Int}, PathIs xs z l → l[0]? = some rootH := by
    intro z l hp
    induction hp with
    | root => rfl
    | step _ _ hp ih =>
      rw [List.getElem?_append_left (List.getElem?_eq_some_iff.1 ih).1]
      exact ih
  exact head hl
theorem TI.gone_all (h : TI xs dep) {top : Int} {j : Nat} {y : Nk} (ht : NAt 1 top xs j y) : (walkF xs 8 rootH).filter (wiB xs (dep j) top) = walkF xs 8 top :=
  (h.gone ht 8 rootH 0 _ h.rootAt (by omega)).1 (h.all_in ht)
end

end Go.Proofs.Ytgjlkplieoajlaa
