/- Of the text TW1 only what this claim needs (shake.py, this repo's). -/
import Derived.Test.YtgjlkplieoajlaaZTW0
set_option linter.unusedVariables false
set_option linter.unusedSimpArgs false
namespace Go.Proofs.Ytgjlkplieoajlaa
open Go.RowKit
set_option maxRecDepth 100000

/-- The slots behind some Drops: those of D are free, a generation on. -/
structure DR (xs : List Nk) (D : List Int) (ys : List Nk) : Prop where
  len : ys.length = xs.length
  out : ∀ (i : Nat) (x : Nk), xs[i]? = some x → (∀ z ∈ D, ¬ NAt 1 z xs i x) → ys[i]? = some x
  gone : ∀ (i : Nat) (x : Nk) (z : Int), z ∈ D → NAt 1 z xs i x → ys[i]? = some (noNk (x.f0 + 1))
section
variable {xs ys : List Nk} {dep : Nat → Nat} {D : List Int}
theorem DR.start (xs : List Nk) : DR xs [] xs := ⟨rfl, fun i x hx _ => hx, fun i x z hz => by simp at hz⟩
theorem DR.keep (h : DR xs D ys) (hT : NM 1 64 xs) {z : Int} {i : Nat} {x : Nk} (ha : NAt 1 z xs i x) (hz : z ∉ D) : NAt 1 z ys i x :=
  ⟨h.out i x ha.1 (fun q hq hb => hz (by have : q = z := hb.2.2.symm.trans ha.2.2; exact this ▸ hq)), ha.2⟩
theorem DR.step (h : DR xs D ys) (hT : NM 1 64 xs) {z : Int} {i : Nat} {x : Nk} (ha : NAt 1 z xs i x) (hz : z ∉ D) : DR xs (D ++ [z]) (ys.set i (noNk (x.f0 + 1))) := by
  have hi : i < ys.length := by rw [h.len]; exact (List.getElem?_eq_some_iff.1 ha.1).1
  refine ⟨by simpa using h.len, fun m u hu hn => ?_, fun m u q hq hb => ?_⟩
  · have hm : i ≠ m := by
      rintro rfl
      have : x = u := by
        have := ha.1.symm.trans hu
        simpa using this
      subst this
      exact hn z (by simp) ha
    rw [List.getElem?_set, if_neg hm]
    exact h.out m u hu (fun q hq => hn q (List.mem_append.2 (.inl hq)))
  · rw [List.getElem?_set]
    by_cases e : i = m
    · subst e
      have : x = u := by
        have := ha.1.symm.trans hb.1
        simpa using this
      subst this
      rw [if_pos rfl, if_pos hi]
    · rw [if_neg e]
      rcases List.mem_append.1 hq with hq | hq
      · exact h.gone m u q hq hb
      · have : q = z := by simpa using hq
        subst this
        exact absurd (nat_uniq hT ha hb).1 e
theorem DR.nm (h : DR xs D ys) (hT : NM 1 64 xs) (hD : ∀ z ∈ D, ∃ i x, NAt 1 z xs i x) : NM 1 64 ys := by
  have key : ∀ (i : Nat) (y : Nk), ys[i]? = some y → ∃ x, xs[i]? = some x ∧ (y = x ∨ (x.f1 = true ∧ y = noNk (x.f0 + 1))) := by
    intro i y hy
    have hi : i < xs.length := by rw [← h.len]; exact (List.getElem?_eq_some_iff.1 hy).1
    refine ⟨xs[i], List.getElem?_eq_getElem hi, ?_⟩
    by_cases c : ∃ z ∈ D, NAt 1 z xs i xs[i]
    · obtain ⟨z, hz, ha⟩ := c
      have := h.gone i _ z hz ha
      rw [hy] at this
      exact .inr ⟨ha.2.1, by simpa using this⟩
    · have := h.out i _ (List.getElem?_eq_getElem hi) (fun z hz ha => c ⟨z, hz, ha⟩)
      rw [hy] at this
      exact .inl (by simpa using this)
  refine ⟨hT.k0, hT.k3, hT.n0, hT.n1, by rw [h.len]; exact hT.len, fun i y hy => ?_, fun i y hy ht => ?_⟩
  · obtain ⟨x, hx, e | ⟨hf, e⟩⟩ := key i y hy
    · subst e; exact hT.gen i _ hx
    · subst e
      have := hT.gen i x hx
      have := hT.top i x hx hf
      exact ⟨by show 1 ≤ x.f0 + 1; omega, by show x.f0 + 1 ≤ 1024; omega⟩
  · obtain ⟨x, hx, e | ⟨hf, e⟩⟩ := key i y hy
    · subst e; exact hT.top i _ hx ht
    · subst e; simp at ht
/-- Who is there behind the Drops. -/
theorem DR.iff (h : DR xs D ys) (hT : NM 1 64 xs) {z : Int} {i : Nat} {x : Nk} : NAt 1 z ys i x ∧ (∀ z ∈ D, ∃ i x, NAt 1 z xs i x) ↔ NAt 1 z xs i x ∧ z ∉ D ∧ (∀ z ∈ D, ∃ i x, NAt 1 z xs i x) := by
  constructor
  · rintro ⟨ha, hD⟩
    have hi : i < xs.length := by rw [← h.len]; exact (List.getElem?_eq_some_iff.1 ha.1).1
    by_cases c : ∃ q ∈ D, NAt 1 q xs i xs[i]
    · obtain ⟨q, hq, hb⟩ := c
      have := h.gone i _ q hq hb
      rw [ha.1] at this
      have e : x = noNk (xs[i].f0 + 1) := by simpa using this
      have := ha.2.1
      rw [e] at this
      simp at this
    · have := h.out i _ (List.getElem?_eq_getElem hi) (fun q hq hb => c ⟨q, hq, hb⟩)
      rw [ha.1] at this
      have e : x = xs[i] := by simpa using this
      have hb : NAt 1 z xs i x := ⟨by rw [e]; exact List.getElem?_eq_getElem hi, ha.2⟩
      exact ⟨hb, fun hz => c ⟨z, hz, e ▸ hb⟩, hD⟩
  · rintro ⟨ha, hz, hD⟩
    exact ⟨h.keep hT ha hz, hD⟩
/-- A subtree is taken away. -/
theorem TI.remove (h : TI xs dep) {top : Int} {j : Nat} {y : Nk} (ht : NAt 1 top xs j y) (hr : top ≠ rootH) (hd : DR xs (walkF xs 8 top) ys) : TI ys dep := by
  have hD : ∀ z ∈ walkF xs 8 top, ∃ i x, NAt 1 z xs i x := fun z hz => by
    obtain ⟨i, x, -, ha, -⟩ := h.walk_at 8 top j y ht z hz
    exact ⟨i, x, ha⟩
  have hroot : rootH ∉ walkF xs 8 top := fun hm => by
    rw [h.walk_wi ht h.rootAt, h.wi h.rootAt .root] at hm
    have h0 : dep j = 0 := by have := (List.getElem?_eq_some_iff.1 hm).1; simp at this; omega
    rw [h0] at hm
    exact hr (by simpa using hm.symm)
  have hk : ∀ {z : Int} {i : Nat} {x : Nk}, NAt 1 z ys i x → NAt 1 z xs i x ∧ z ∉ walkF xs 8 top := fun ha => by
    have := (hd.iff h.nm).1 ⟨ha, hD⟩
    exact ⟨this.1, this.2.1⟩
  refine ⟨hd.nm h.nm hD, (hd.keep h.nm h.rootAt hroot).1, h.d0, fun i x hi hx hf => ?_, fun i x hx hf => ?_⟩
  · obtain ⟨ha, hn⟩ := hk (z := Proofs.Ytgjlkplieoajlaa.mk 1 i x.f0) (i := i) (x := x) ⟨hx, hf, rfl⟩
    obtain ⟨m, u, hb, e⟩ := h.up i x hi ha.1 ha.2.1
    refine ⟨m, u, hd.keep h.nm hb (fun hm => hn ?_), e⟩
    have h9 := walk_kid (xs := xs) (p := x.p) (z := Proofs.Ytgjlkplieoajlaa.mk 1 i x.f0) (mem_kids.2 ⟨i, x, ha, rfl⟩) 8 top hm
    rwa [h.walk_more 8 top j y ht (by omega)] at h9
  · obtain ⟨ha, -⟩ := hk (z := Proofs.Ytgjlkplieoajlaa.mk 1 i x.f0) (i := i) (x := x) ⟨hx, hf, rfl⟩
    exact h.le i x ha.1 ha.2.1
theorem tkN_map {xs ys : List Nk} {P : Nat × Nk → Bool} : ∀ (n : Nat), xs.length = ys.length → (∀ (i : Nat) (x : Nk), ys[i]? = some x ∧ x.f1 = true ↔ xs[i]? = some x ∧ x.f1 = true ∧ P (i, x) = true) → tkN 0 ys = (tkN 0 xs).filter P := by
  intro _ hl hk
  have gen : ∀ (l m : List Nk) (o : Nat), l.length = m.length → (∀ (i : Nat) (x : Nk), m[i]? = some x ∧ x.f1 = true ↔ l[i]? = some x ∧ x.f1 = true ∧ P (o + i, x) = true) → tkN o m = (tkN o l).filter P := by
    intro l
    induction l with
    | nil => intro m o hl _; cases m with
      | nil => rfl
      | cons a m => simp at hl
    | cons a l ih =>
      intro m o hl hk
      cases m with
      | nil => simp at hl
      | cons b m =>
        have ih' := ih m (o + 1) (by simpa using hl) (fun i x => by have := hk (i + 1) x; simp only [List.getElem?_cons_succ] at this; rw [this, show o + (i + 1) = o + 1 + i by omega])
        have h0 := hk 0
        simp only [List.getElem?_cons_zero, Option.some.injEq, Nat.add_zero] at h0
        unfold tkN
        by_cases cb : b.f1 = true
        · have := (h0 b).1 ⟨rfl, cb⟩
          obtain ⟨e, hf, hp⟩ := this
          subst e
          rw [if_pos cb, if_pos hf, List.filter_cons_of_pos hp, ih']
        · rw [if_neg cb, ih']
          by_cases ca : a.f1 = true
          · rw [if_pos ca]
            have hp : ¬ P (o, a) = true := fun hp => by
              obtain ⟨e, hf⟩ := (h0 a).2 ⟨rfl, ca, hp⟩
              exact cb (e ▸ ca)
            rw [List.filter_cons_of_neg hp]
          · rw [if_neg ca]
  exact gen xs ys 0 hl (fun i x => by rw [hk i x, Nat.zero_add])
theorem TI.kids_left (h : TI xs dep) {top : Int} {j : Nat} {y : Nk} (ht : NAt 1 top xs j y) (hd : DR xs (walkF xs 8 top) ys) (z : Int) : kidsF ys z = (kidsF xs z).filter fun a => !wiB xs (dep j) top a := by
  have hD : ∀ z ∈ walkF xs 8 top, ∃ i x, NAt 1 z xs i x := fun z hz => by
    obtain ⟨i, x, -, ha, -⟩ := h.walk_at 8 top j y ht z hz
    exact ⟨i, x, ha⟩
  have e1 : tkN 0 ys = (tkN 0 xs).filter fun q => !wiB xs (dep j) top (Proofs.Ytgjlkplieoajlaa.mk 1 q.1 q.2.f0) := by
    refine tkN_map 0 hd.len.symm (fun i x => ?_)
    constructor
    · rintro ⟨hx, hf⟩
      have := (hd.iff h.nm (z := Proofs.Ytgjlkplieoajlaa.mk 1 i x.f0) (i := i) (x := x)).1 ⟨⟨hx, hf, rfl⟩, hD⟩
      refine ⟨this.1.1, hf, ?_⟩
      have hn := this.2.1
      rw [h.walk_wi ht this.1] at hn
      simpa using hn
    · rintro ⟨hx, hf, hp⟩
      have ha : NAt 1 (Proofs.Ytgjlkplieoajlaa.mk 1 i x.f0) xs i x := ⟨hx, hf, rfl⟩
      have hn : Proofs.Ytgjlkplieoajlaa.mk 1 i x.f0 ∉ walkF xs 8 top := by
        rw [h.walk_wi ht ha]
        simpa using hp
      exact ⟨(hd.keep h.nm ha hn).1, hf⟩
  unfold kidsF
  rw [e1, List.filter_filter, List.filter_map, List.filter_filter]
  congr 1
  apply List.filter_congr
  intro q _
  simp [Function.comp, Bool.and_comm]
/-- The walk behind a Remove: the rest, in its order. -/
theorem TI.left (h : TI xs dep) {top : Int} {j : Nat} {y : Nk} (ht : NAt 1 top xs j y) (hd : DR xs (walkF xs 8 top) ys) : ∀ (k : Nat) (z : Int) (i : Nat) (x : Nk), NAt 1 z xs i x → wiB xs (dep j) top z = false → walkF ys k z = (walkF xs k z).filter fun a => !wiB xs (dep j) top a
  | 0, z, i, x, ha, hz => by simp [walkF, hz]
  | k + 1, z, i, x, ha, hz => by
    unfold walkF
    rw [List.filter_cons_of_pos (by simp [hz]), h.kids_left ht hd z, filter_flatMap']
    congr 1
    have gen : ∀ L : List Int, (∀ a ∈ L, a ∈ kidsF xs z) → (L.filter fun a => !wiB xs (dep j) top a).flatMap (walkF ys k) = L.flatMap fun a => (walkF xs k a).filter fun a => !wiB xs (dep j) top a := by
      intro L
      induction L with
      | nil => intro _; rfl
      | cons a L il =>
        intro hm
        obtain ⟨m, u, hb, e⟩ := mem_kids.1 (hm a List.mem_cons_self)
        have il' := il (fun b hb => hm b (List.mem_cons_of_mem _ hb))
        rw [List.flatMap_cons]
        cases hw : wiB xs (dep j) top a with
        | false =>
          rw [List.filter_cons_of_pos (by simp [hw]), List.flatMap_cons, TI.left h ht hd k a m u hb hw, il']
        | true =>
          rw [List.filter_cons_of_neg (by simp [hw]), il']
          have : (walkF xs k a).filter (fun a => !wiB xs (dep j) top a) = [] := by
            rw [List.filter_eq_nil_iff]
            intro q hq
            obtain rfl : a = top := by
              rcases (h.kid_wi ht ha hb e).1 hw with c | c
              · rw [hz] at c; simp at c
              · exact c
            obtain ⟨m', u', l, hb', hl, hx⟩ := h.walk_at k a m u hb q hq
            have := (nat_uniq h.nm ht hb).1
            subst this
            simp [(h.wi hb' hl).2 hx]
          rw [this, List.nil_append]
    exact gen _ (fun a ha => ha)
theorem TI.left_all (h : TI xs dep) {top : Int} {j : Nat} {y : Nk} (ht : NAt 1 top xs j y) (hr : top ≠ rootH) (hd : DR xs (walkF xs 8 top) ys) : walkF ys 8 rootH = (walkF xs 8 rootH).filter fun a => !wiB xs (dep j) top a := by
  refine h.left ht hd 8 rootH 0 _ h.rootAt ?_
  cases hw : wiB xs (dep j) top rootH with
  | false => rfl
  | true =>
    rw [h.wi h.rootAt .root] at hw
    have h0 : dep j = 0 := by have := (List.getElem?_eq_some_iff.1 hw).1; simp at this; omega
    rw [h0] at hw
    exact absurd (by simpa using hw.symm) hr
end

end Go.Proofs.Ytgjlkplieoajlaa
