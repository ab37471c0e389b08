/- Of the text TR0 only what this claim needs (shake.py, this repo's). -/
import Derived.Test.YtgjlkplieoajlaaZNT6
set_option linter.unusedVariables false
set_option linter.unusedSimpArgs false
namespace Go.Proofs.Ytgjlkplieoajlaa
open Go.RowKit
set_option maxRecDepth 100000

def tkN : Nat → List Nk → List (Nat × Nk)
  | _, [] => []
  | i, x :: r => if x.f1 = true then (i, x) :: tkN (i + 1) r else tkN (i + 1) r
theorem nallF_tkN (kind : Int) : ∀ (xs : List Nk) (i : Nat), nallF kind i xs = (tkN i xs).map fun q => mk kind q.1 q.2.f0
  | [], i => by simp only [nallF, tkN, List.map_nil]
  | x :: r, i => by
    simp only [nallF, tkN]
    split
    · rw [List.map_cons, nallF_tkN kind r (i + 1)]
    · exact nallF_tkN kind r (i + 1)
theorem tkN_mem : ∀ (xs : List Nk) (i j : Nat) (x : Nk), (j, x) ∈ tkN i xs ↔ i ≤ j ∧ xs[j - i]? = some x ∧ x.f1 = true
  | [], i, j, x => by simp [tkN]
  | y :: r, i, j, x => by
    have ih := tkN_mem r (i + 1) j x
    have key : ((j, x) = (i, y) ∧ y.f1 = true) ∨ (i + 1 ≤ j ∧ r[j - (i + 1)]? = some x ∧ x.f1 = true) ↔ i ≤ j ∧ (y :: r)[j - i]? = some x ∧ x.f1 = true := by
      constructor
      · rintro (⟨e, hy⟩ | ⟨h1, h2, h3⟩)
        · have e1 : j = i := congrArg Prod.fst e
          have e2 : x = y := congrArg Prod.snd e
          subst e1 e2
          exact ⟨Nat.le_refl _, by simp, hy⟩
        · refine ⟨by omega, ?_, h3⟩
          rw [show j - i = (j - (i + 1)) + 1 by omega, List.getElem?_cons_succ]
          exact h2
      · rintro ⟨h1, h2, h3⟩
        by_cases e : i = j
        · subst e
          rw [Nat.sub_self] at h2
          have : y = x := by simpa using h2
          subst this
          exact .inl ⟨rfl, h3⟩
        · refine .inr ⟨by omega, ?_, h3⟩
          rw [show j - i = (j - (i + 1)) + 1 by omega, List.getElem?_cons_succ] at h2
          exact h2
    rw [← key]
    unfold tkN
    by_cases hy : y.f1 = true
    · rw [if_pos hy, List.mem_cons, ih]
      simp [hy]
    · rw [if_neg hy, ih]
      simp [hy]
theorem tkN_len : ∀ (xs : List Nk) (i : Nat), (tkN i xs).length ≤ xs.length
  | [], i => by simp [tkN]
  | x :: r, i => by
    have := tkN_len r (i + 1)
    simp only [tkN]
    split <;> simp <;> omega

abbrev rootH : Int := mk 1 0 1
def kidsF (xs : List Nk) (h : Int) : List Int := ((tkN 0 xs).filter fun q => decide (q.2.p = h)).map fun q => mk 1 q.1 q.2.f0
theorem mem_kids {xs : List Nk} {h z : Int} : z ∈ kidsF xs h ↔ ∃ i x, NAt 1 z xs i x ∧ x.p = h := by
  unfold kidsF NAt
  rw [List.mem_map]
  constructor
  · rintro ⟨⟨i, x⟩, hm, e⟩
    rw [List.mem_filter, tkN_mem] at hm
    exact ⟨i, x, ⟨by simpa using hm.1.2.1, hm.1.2.2, e⟩, by simpa using hm.2⟩
  · rintro ⟨i, x, ⟨h1, h2, h3⟩, h4⟩
    refine ⟨(i, x), ?_, h3⟩
    rw [List.mem_filter, tkN_mem]
    exact ⟨⟨Nat.zero_le _, by simpa using h1, h2⟩, by simpa using h4⟩
def walkF (xs : List Nk) : Nat → Int → List Int
  | 0, h => [h]
  | k + 1, h => h :: (kidsF xs h).flatMap (walkF xs k)

theorem nat_slot {n : Nat} {xs : List Nk} (hT : NM 1 n xs) {h : Int} {i : Nat} {x : Nk} (ha : NAt 1 h xs i x) : hs h = (i : Int) ∧ h ≠ 0 := by
  have hi := (List.getElem?_eq_some_iff.1 ha.1).1
  have hl := hT.len
  have hn := hT.n1
  have g1 := hT.gen i x ha.1
  have p := hk_mk 1 (i : Int) x.f0 (by omega) (by omega) (by omega) (by omega)
  rw [ha.2.2] at p
  refine ⟨p.2.1, ?_⟩
  rintro rfl
  have := p.1
  unfold hk at this
  omega
theorem nat_uniq {n : Nat} {xs : List Nk} (hT : NM 1 n xs) {h : Int} {i j : Nat} {x y : Nk} (ha : NAt 1 h xs i x) (hb : NAt 1 h xs j y) : i = j ∧ x = y := by
  have e1 := (nat_slot hT ha).1
  have e2 := (nat_slot hT hb).1
  have e : i = j := by omega
  subst e
  refine ⟨rfl, ?_⟩
  have := ha.1.symm.trans hb.1
  simpa using this

/-- A tree: the root stands in the slot 0; whoever else is there has its parent there, one nearer to the root. -/
structure TI (xs : List Nk) (dep : Nat → Nat) : Prop where
  nm : NM 1 64 xs
  r0 : xs[0]? = some ⟨1, true, 0⟩
  d0 : dep 0 = 0
  up : ∀ (i : Nat) (x : Nk), i ≠ 0 → xs[i]? = some x → x.f1 = true → ∃ j y, NAt 1 x.p xs j y ∧ dep i = dep j + 1
  le : ∀ (i : Nat) (x : Nk), xs[i]? = some x → x.f1 = true → dep i ≤ 8
inductive PathIs (xs : List Nk) : Int → List Int → Prop
  | root : PathIs xs rootH [rootH]
  | step {h : Int} {i : Nat} {x : Nk} {l : List Int} : NAt 1 h xs i x → i ≠ 0 → PathIs xs x.p l → PathIs xs h (l ++ [h])
theorem PathIs.last {xs : List Nk} {z : Int} {l : List Int} (h : PathIs xs z l) : l[l.length - 1]? = some z := by
  cases h with
  | root => rfl
  | step _ _ _ => simp
section
variable {xs : List Nk} {dep : Nat → Nat}
theorem TI.rootAt (h : TI xs dep) : NAt 1 rootH xs 0 ⟨1, true, 0⟩ := ⟨h.r0, rfl, rfl⟩
theorem TI.notRoot (h : TI xs dep) {z : Int} {i : Nat} {x : Nk} (ha : NAt 1 z xs i x) (hi : i ≠ 0) : z ≠ rootH := by
  rintro rfl
  exact hi (nat_uniq h.nm ha h.rootAt).1
theorem TI.isRoot (h : TI xs dep) {z : Int} {x : Nk} (ha : NAt 1 z xs 0 x) : z = rootH ∧ x = ⟨1, true, 0⟩ := by
  have : x = ⟨1, true, 0⟩ := by
    have := ha.1.symm.trans h.r0
    simpa using this
  subst this
  exact ⟨ha.2.2.symm, rfl⟩
theorem TI.path (h : TI xs dep) : ∀ (n i : Nat) (x : Nk) (z : Int), dep i = n → NAt 1 z xs i x → ∃ l, PathIs xs z l ∧ l.length = n + 1 := by
  intro n
  induction n with
  | zero =>
    intro i x z hd ha
    by_cases hi : i = 0
    · subst hi
      obtain ⟨rfl, -⟩ := h.isRoot ha
      exact ⟨[rootH], .root, rfl⟩
    · obtain ⟨j, y, -, e⟩ := h.up i x hi ha.1 ha.2.1
      omega
  | succ n ih =>
    intro i x z hd ha
    by_cases hi : i = 0
    · subst hi
      rw [h.d0] at hd
      omega
    · obtain ⟨j, y, hp, e⟩ := h.up i x hi ha.1 ha.2.1
      obtain ⟨l, hl, hn⟩ := ih j y x.p (by omega) hp
      exact ⟨l ++ [z], .step ha hi hl, by simp [hn]⟩
theorem TI.path_uniq (h : TI xs dep) : ∀ {z : Int} {l l' : List Int}, PathIs xs z l → PathIs xs z l' → l = l' := by
  intro z l l' hp
  induction hp generalizing l' with
  | root =>
    intro hp'
    cases hp' with
    | root => rfl
    | step ha hi _ => exact absurd rfl (h.notRoot ha hi)
  | step ha hi _ ih =>
    intro hp'
    cases hp' with
    | root => exact absurd rfl (h.notRoot ha hi)
    | step ha' hi' hq =>
      obtain ⟨-, rfl⟩ := nat_uniq h.nm ha ha'
      rw [ih hq]
theorem TI.path_len (h : TI xs dep) {z : Int} {i : Nat} {x : Nk} {l : List Int} (ha : NAt 1 z xs i x) (hp : PathIs xs z l) : l.length = dep i + 1 := by
  obtain ⟨l', hp', e⟩ := h.path (dep i) i x z rfl ha
  rw [h.path_uniq hp hp', e]
theorem TI.kid_dep (h : TI xs dep) {z q : Int} {i j : Nat} {x y : Nk} (ha : NAt 1 z xs i x) (hb : NAt 1 q xs j y) (e : x.p = q) : i ≠ 0 ∧ dep i = dep j + 1 := by
  have hi : i ≠ 0 := by
    rintro rfl
    obtain ⟨-, rfl⟩ := h.isRoot ha
    exact (nat_slot h.nm hb).2 e.symm
  obtain ⟨j', y', hp, hd⟩ := h.up i x hi ha.1 ha.2.1
  rw [e] at hp
  obtain ⟨rfl, -⟩ := nat_uniq h.nm hp hb
  exact ⟨hi, hd⟩
theorem TI.no_kids (h : TI xs dep) {z : Int} {i : Nat} {x : Nk} (ha : NAt 1 z xs i x) (hd : 8 ≤ dep i) : kidsF xs z = [] := by
  apply List.eq_nil_iff_forall_not_mem.2
  intro q hq
  obtain ⟨j, y, hb, e⟩ := mem_kids.1 hq
  have := (h.kid_dep hb ha e).2
  have := h.le j y hb.1 hb.2.1
  omega
/-- What the walk meets is there, and its path leads through where the walk began. -/
theorem TI.walk_at (h : TI xs dep) : ∀ (k : Nat) (z : Int) (i : Nat) (x : Nk), NAt 1 z xs i x → ∀ q ∈ walkF xs k z, ∃ j y l, NAt 1 q xs j y ∧ PathIs xs q l ∧ l[dep i]? = some z
  | k, z, i, x, ha, q, hq => by
    obtain ⟨lz, hlz, -⟩ := h.path (dep i) i x z rfl ha
    have hself : ∃ j y l, NAt 1 z xs j y ∧ PathIs xs z l ∧ l[dep i]? = some z := by
      refine ⟨i, x, lz, ha, hlz, ?_⟩
      have hl := h.path_len ha hlz
      cases hlz with
      | root =>
        have : dep i = 0 := by simp at hl; omega
        rw [this]; rfl
      | step _ _ hp =>
        rename_i l0 _ _
        have : l0.length = dep i := by simp at hl; omega
        rw [← this]
        simp
    cases k with
    | zero =>
      obtain rfl : q = z := by simpa [walkF] using hq
      exact hself
    | succ k =>
      unfold walkF at hq
      rcases List.mem_cons.1 hq with rfl | hq
      · exact hself
      · obtain ⟨a, hka, hqa⟩ := List.mem_flatMap.1 hq
        obtain ⟨j, y, hb, e⟩ := mem_kids.1 hka
        obtain ⟨hj0, hdj⟩ := h.kid_dep hb ha e
        obtain ⟨m, u, l, hm, hl, hla⟩ := TI.walk_at h k a j y hb q hqa
        refine ⟨m, u, l, hm, hl, ?_⟩
        -- the prefix of a path is a path
        have key : ∀ {w : Int} {l : List Int}, PathIs xs w l → ∀ (d : Nat) (b : Int), l[d + 1]? = some b → ∃ c v, NAt 1 b xs c v ∧ l[d]? = some v.p := by
          intro w l hp
          induction hp with
          | root => intro d b hb; simp at hb
          | @step w' c v l0 hw hc hp0 ih =>
            intro d b hb
            by_cases hd : d + 1 < l0.length
            · rw [List.getElem?_append_left hd] at hb
              obtain ⟨c', v', h1, h2⟩ := ih d b hb
              exact ⟨c', v', h1, by rw [List.getElem?_append_left (by omega)]; exact h2⟩
            · have hle : d + 1 = l0.length := by
                have := (List.getElem?_eq_some_iff.1 hb).1
                simp at this
                omega
              rw [List.getElem?_append_right (by omega), ← hle] at hb
              have e2 : w' = b := by simpa using hb
              subst e2
              refine ⟨c, v, hw, ?_⟩
              rw [List.getElem?_append_left (by omega)]
              have hlast : l0[l0.length - 1]? = some v.p := hp0.last
              rw [← hlast, ← hle]
              simp
        rw [hdj] at hla
        obtain ⟨c, v, h1, h2⟩ := key hl (dep i) a hla
        obtain ⟨rfl, rfl⟩ := nat_uniq h.nm h1 hb
        rw [h2, e]
theorem nodup_slots : ∀ (n : Nat) (l : List Nat), l.Nodup → (∀ a ∈ l, a < n) → l.length ≤ n
  | 0, l, _, h => by
    cases l with
    | nil => simp
    | cons a l => exact absurd (h a List.mem_cons_self) (by omega)
  | n + 1, l, hd, h => by
    have ih := nodup_slots n (l.filter fun a => decide (a ≠ n)) (hd.filter _) (fun a ha => by
      rw [List.mem_filter] at ha
      have := h a ha.1
      have h2 : a ≠ n := by simpa using ha.2
      omega)
    have : l.length ≤ (l.filter fun a => decide (a ≠ n)).length + 1 := by
      clear h ih
      induction l with
      | nil => simp
      | cons a l il =>
        rw [List.nodup_cons] at hd
        by_cases e : a = n
        · subst e
          have hf : l.filter (fun b => decide (b ≠ a)) = l := List.filter_eq_self.2 (fun b hb => by
            have : b ≠ a := fun e => hd.1 (e ▸ hb)
            simpa using this)
          rw [List.filter_cons_of_neg (by simp), hf]
          simp
        · rw [List.filter_cons_of_pos (by simpa using e)]
          have := il hd.2
          simp only [List.length_cons]
          omega
    omega
theorem kids_nodup (h : TI xs dep) (z : Int) : (kidsF xs z).Nodup := by
  have tk : ∀ (l : List Nk) (i : Nat), (∀ (j : Nat) (x : Nk), l[j]? = some x → 1 ≤ x.f0 ∧ x.f0 ≤ 1024) → i + l.length ≤ 4096 → (((tkN i l).filter fun q => decide (q.2.p = z)).map fun q => mk 1 q.1 q.2.f0).Nodup ∧ ∀ a ∈ (((tkN i l).filter fun q => decide (q.2.p = z)).map fun q => mk 1 q.1 q.2.f0), (i : Int) ≤ hs a := by
    intro l
    induction l with
    | nil => intro i _ _; simp [tkN]
    | cons y r ih =>
      intro i hg hl
      simp only [List.length_cons] at hl
      obtain ⟨h1, h2⟩ := ih (i + 1) (fun j x hx => hg (j + 1) x (by simpa using hx)) (by omega)
      have hy := hg 0 y rfl
      have hp := (hk_mk 1 (i : Int) y.f0 (by omega) (by omega) (by omega) (by omega)).2.1
      have h2' : ∀ a ∈ (((tkN (i + 1) r).filter fun q => decide (q.2.p = z)).map fun q => mk 1 q.1 q.2.f0), (i : Int) ≤ hs a := fun a ha => by have := h2 a ha; omega
      unfold tkN
      by_cases c : y.f1 = true
      · rw [if_pos c]
        by_cases e : y.p = z
        · rw [List.filter_cons_of_pos (by simpa using e), List.map_cons]
          refine ⟨List.nodup_cons.2 ⟨fun hm => ?_, h1⟩, fun a ha => ?_⟩
          · have := h2 _ hm
            rw [hp] at this
            omega
          · rcases List.mem_cons.1 ha with rfl | ha
            · rw [hp]; omega
            · exact h2' a ha
        · rw [List.filter_cons_of_neg (by simpa using e)]
          exact ⟨h1, h2'⟩
      · rw [if_neg c]
        exact ⟨h1, h2'⟩
  exact (tk xs 0 (fun j x hx => h.nm.gen j x hx) (by have := h.nm.len; omega)).1
theorem TI.walk_nodup (h : TI xs dep) : ∀ (k : Nat) (z : Int) (i : Nat) (x : Nk), NAt 1 z xs i x → (walkF xs k z).Nodup
  | 0, z, i, x, ha => by simp [walkF]
  | k + 1, z, i, x, ha => by
    unfold walkF
    refine List.nodup_cons.2 ⟨fun hm => ?_, ?_⟩
    · obtain ⟨a, hka, hqa⟩ := List.mem_flatMap.1 hm
      obtain ⟨j, y, hb, e⟩ := mem_kids.1 hka
      have hdj := (h.kid_dep hb ha e).2
      obtain ⟨m, u, l, hm, hl, hla⟩ := h.walk_at k a j y hb z hqa
      have := h.path_len ha hl
      have := (List.getElem?_eq_some_iff.1 hla).1
      omega
    · have gen : ∀ L : List Int, L.Nodup → (∀ a ∈ L, a ∈ kidsF xs z) → (L.flatMap (walkF xs k)).Nodup := by
        intro L
        induction L with
        | nil => intro _ _; simp
        | cons a L il =>
          intro hnd hmem
          rw [List.nodup_cons] at hnd
          obtain ⟨j, y, hb, e⟩ := mem_kids.1 (hmem a List.mem_cons_self)
          have hdj := (h.kid_dep hb ha e).2
          rw [List.flatMap_cons, List.nodup_append]
          refine ⟨TI.walk_nodup h k a j y hb, il hnd.2 (fun b hb => hmem b (List.mem_cons_of_mem _ hb)), fun q hq q' hq' e1 => ?_⟩
          subst e1
          obtain ⟨b, hbL, hqb⟩ := List.mem_flatMap.1 hq'
          obtain ⟨j', y', hb', e'⟩ := mem_kids.1 (hmem b (List.mem_cons_of_mem _ hbL))
          have hdj' := (h.kid_dep hb' ha e').2
          obtain ⟨-, -, l, -, hl, hla⟩ := h.walk_at k a j y hb q hq
          obtain ⟨-, -, l', -, hl', hla'⟩ := h.walk_at k b j' y' hb' q hqb
          rw [h.path_uniq hl hl', hdj] at hla
          rw [hdj', hla] at hla'
          have : a = b := by simpa using hla'
          exact hnd.1 (this ▸ hbL)
      exact gen _ (kids_nodup h z) (fun a ha => ha)
theorem TI.walk_len (h : TI xs dep) (k : Nat) {z : Int} {i : Nat} {x : Nk} (ha : NAt 1 z xs i x) : (walkF xs k z).length ≤ 64 := by
  have hnd := h.walk_nodup k z i x ha
  have hat := h.walk_at k z i x ha
  have : ((walkF xs k z).map fun q => (hs q).toNat).length ≤ 64 := by
    refine nodup_slots 64 _ ?_ (fun a ha => ?_)
    · have gen : ∀ L : List Int, L.Nodup → (∀ q ∈ L, ∃ j y, NAt 1 q xs j y) → (L.map fun q => (hs q).toNat).Nodup := by
        intro L
        induction L with
        | nil => intro _ _; simp
        | cons a L il =>
          intro hnd hmem
          rw [List.nodup_cons] at hnd
          rw [List.map_cons, List.nodup_cons]
          refine ⟨fun hm => ?_, il hnd.2 (fun b hb => hmem b (List.mem_cons_of_mem _ hb))⟩
          obtain ⟨b, hbL, e⟩ := List.mem_map.1 hm
          obtain ⟨j, y, h1⟩ := hmem a List.mem_cons_self
          obtain ⟨j', y', h2⟩ := hmem b (List.mem_cons_of_mem _ hbL)
          have e1 := (nat_slot h.nm h1).1
          have e2 := (nat_slot h.nm h2).1
          rw [e1, e2] at e
          have : j' = j := by omega
          subst this
          have hy : y = y' := by
            have := h1.1.symm.trans h2.1
            simpa using this
          subst hy
          have : a = b := h1.2.2.symm.trans h2.2.2
          exact hnd.1 (this ▸ hbL)
      exact gen _ hnd (fun q hq => by obtain ⟨j, y, l, h1, -⟩ := hat q hq; exact ⟨j, y, h1⟩)
    · obtain ⟨q, hq, rfl⟩ := List.mem_map.1 ha
      obtain ⟨j, y, l, h1, -⟩ := hat q hq
      have e1 := (nat_slot h.nm h1).1
      have := (List.getElem?_eq_some_iff.1 h1.1).1
      have := h.nm.len
      omega
  simpa using this
/-- A free slot is given to a child. -/
theorem TI.add (h : TI xs dep) {i : Nat} {x : Nk} (hx : xs[i]? = some x) (hf : FreeNk x) {z : Int} {j : Nat} {y : Nk} (ha : NAt 1 z xs j y) (hd : dep j ≤ 7) :
    TI (xs.set i ⟨x.f0, true, z⟩) (fun k => if k = i then dep j + 1 else dep k) := by
  have hi : i < xs.length := (List.getElem?_eq_some_iff.1 hx).1
  have g1 := h.nm.gen i x hx
  have hi0 : i ≠ 0 := by
    rintro rfl
    have := hx.symm.trans h.r0
    have e : x = ⟨1, true, 0⟩ := by simpa using this
    have := hf.1
    rw [e] at this
    simp at this
  have hne : ∀ {q : Int} {m : Nat} {u : Nk}, NAt 1 q xs m u → m ≠ i := by
    rintro q m u hq rfl
    have := hx.symm.trans hq.1
    have e : x = u := by simpa using this
    have h1 := hf.1
    rw [e, hq.2.1] at h1
    simp at h1
  have hst : ∀ {q : Int} {m : Nat} {u : Nk}, NAt 1 q xs m u → NAt 1 q (xs.set i ⟨x.f0, true, z⟩) m u := fun hq => ⟨by rw [List.getElem?_set, if_neg (fun e => hne hq e.symm)]; exact hq.1, hq.2⟩
  refine ⟨h.nm.set i _ g1.1 g1.2 (fun _ => hf.2), by rw [List.getElem?_set, if_neg hi0]; exact h.r0, by rw [if_neg (Ne.symm hi0)]; exact h.d0, fun m u hm hu ht => ?_, fun m u hu ht => ?_⟩
  · rw [List.getElem?_set] at hu
    by_cases e : i = m
    · subst e
      rw [if_pos rfl, if_pos hi] at hu
      have e2 : u = ⟨x.f0, true, z⟩ := by simpa using hu.symm
      subst e2
      exact ⟨j, y, hst ha, by rw [if_pos rfl, if_neg (hne ha)]⟩
    · rw [if_neg e] at hu
      obtain ⟨j', y', hp, hd'⟩ := h.up m u hm hu ht
      exact ⟨j', y', hst hp, by rw [if_neg (Ne.symm e), if_neg (hne hp)]; exact hd'⟩
  · rw [List.getElem?_set] at hu
    by_cases e : i = m
    · subst e
      rw [if_pos rfl]
      omega
    · rw [if_neg e] at hu
      rw [if_neg (Ne.symm e)]
      exact h.le m u hu ht
end
def xsT0 : List Nk := (List.replicate 64 oneNk).set 0 ⟨1, true, 0⟩
theorem TI.start : TI xsT0 (fun _ => 0) := by
  have nm := (NM.one (kind := 1) (n := 64) (by omega) (by omega) (by omega) (by omega)).set 0 ⟨1, true, 0⟩ (by decide) (by decide) (fun _ => by decide)
  refine ⟨nm, rfl, rfl, fun i x hi hx ht => ?_, fun i x hx ht => Nat.zero_le _⟩
  unfold xsT0 at hx
  rw [List.getElem?_set, if_neg (Ne.symm hi), List.getElem?_replicate] at hx
  split at hx
  · have : x = oneNk := by simpa using hx.symm
    subst this
    simp at ht
  · simp at hx

end Go.Proofs.Ytgjlkplieoajlaa
