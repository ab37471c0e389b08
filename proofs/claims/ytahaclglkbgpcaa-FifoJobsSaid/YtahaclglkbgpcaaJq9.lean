/- Queues of jobs: Keep with the law's closure, by contract. -/
import Derived.Test.YtahaclglkbgpcaaJq8
set_option linter.unusedVariables false
set_option linter.unusedSimpArgs false
namespace Go.Proofs.Ytahaclglkbgpcaa
open Go.RowKit
open Go.Proofs.YtahaclglkbgpcaaW.PrintWords (Kd Drawn0 Kept rd rdOf)
open Go.Proofs.Ytahaclglkbgpcaa.PFifoJobs
set_option maxRecDepth 100000

theorem jfn_ne (f : FuncId) (u v : Value) (w : World) : Sem.run Try.prog (binOp BinOp.eql 51 (Value.func (Fn.func f) #[] #[u, v]) Value.nilFunc) w = .ok (.bool false) w := by kernel_rfl
attribute [local go_sem high] jfn_ne

/-- A variable of the type int. -/
def VI (W : World) (b : Nat) (c : Int) : Prop := W.heap[b]? = some (.cells #[.int .i64 c] 3 (0, 0))
theorem VI.c {W : World} {b : Nat} {c : Int} (h : VI W b c) : W.cell? ⟨b, 0, none⟩ = some (.int .i64 c) := by unfold VI at h; simp [World.cell?, h]
theorem VI.f {W : World} {b : Nat} {c : Int} (h : VI W b c) : W.frozen? ⟨b, 0, none⟩ = false := by unfold VI at h; simp [World.frozen?, h]
theorem VI.lt {W : World} {b : Nat} {c : Int} (h : VI W b c) : b < W.heap.size := (Array.getElem?_eq_some_iff.1 h).1
theorem VI.chg {W W' : World} {b : Nat} {c : Int} (h : VI W b c) {S : Nat → Prop} (hc : Chg S W W') (hn : ¬ S b) : VI W' b c := hc.heap h hn
theorem VI.set {W : World} {b : Nat} {c : Int} (h : VI W b c) (c' : Int) : VI (W.setCell ⟨b, 0, none⟩ (.int .i64 c')) b c' := heap_setCell_same W b 0 _ _ (.int .i64 c') h

theorem jclo_ok (x : Jb) (ab lb : Nat) (c least : Int) (w : World) (ha : VI w ab c) (hl : VI w lb least) (hne : ab ≠ lb) (h0 : 0 ≤ c) (h1 : c ≤ 5000) :
    Calls Try.prog 25 #[.agg #[.int .i64 x.f0, .int .i64 x.f1, .int .i64 x.f2, .int .i64 x.f3], .pointer (some ⟨ab, 0, none⟩), .pointer (some ⟨lb, 0, none⟩)] w fun e w' => e = .returned (.bool (decide (least ≤ x.f0))) ∧ (VI w' ab (c + 1) ∧ VI w' lb least) ∧ Chg (fun b => b = ab) w w' := by
  have hal := ha.lt
  have hll := hl.lt
  have a0 := ha.c
  have f0 := ha.f
  have l0 := hl.c
  have HA := Lib.hid ha
  have HL := Lib.hid hl
  have hn3 : lb ≠ ab := fun e => hne e.symm
  clear ha hl
  go_enter Try.func25, Try.ntmps25
  go_wp2_with fail
  go_ret
  have xa : Chg (fun _ => False) (w.setCell ⟨ab, 0, none⟩ (.int .i64 (c + 1))) ((w.setCell ⟨ab, 0, none⟩ (.int .i64 (c + 1))).alloc (.cells #[.int .i64 x.f0, .int .i64 x.f1, .int .i64 x.f2, .int .i64 x.f3] 48)) := (Chg.refl _ _).alloc _
  exact ⟨rfl, ⟨(HA.out.set (c + 1)).chg xa (fun f => f), (HL.out.chg ((Chg.refl (fun b => b = ab) w).setCell _ _ rfl) hn3).chg xa (fun f => f)⟩, ((Chg.refl (fun b => b = ab) w).setCell _ _ rfl).trans (xa.mono (fun _ _ f => f.elim))⟩

set_option maxHeartbeats 4000000 in
theorem jkeep_ok {w : World} {q lim ab : Nat} {xs : List Jb} {S : Nat → Prop} (p : Jb → Bool) (u1 u2 : Value) (I : Nat → World → Prop)
    (hI : ∀ k W W', I k W → Chg (fun b => S b ∨ w.heap.size ≤ b) W W' → I k W') (hcall : ∀ (k : Nat) (x : Jb) (W : World), k < xs.length → I k W → Calls Try.prog 25 #[.agg #[.int .i64 x.f0, .int .i64 x.f1, .int .i64 x.f2, .int .i64 x.f3], u1, u2] W fun e W' => e = .returned (.bool (p x)) ∧ I (k + 1) W' ∧ Chg (fun b => b = ab) W W')
    (hab : ab < w.heap.size) (haS : ¬ S ab) (h0 : I 0 w) (h : JS w q lim xs S) :
    Calls Try.prog 24 #[.pointer (some ⟨q, 0, none⟩), .func (.func 25) #[] #[u1, u2]] w fun e w' => e = .returned (.int .i64 (((xs.length - (xs.filter p).length : Nat)) : Int)) ∧ JS w' q lim (xs.filter p) (Aft S w w') ∧ I xs.length w' ∧ Chg (fun b => S b ∨ b = ab) w w' := by
  have HL := Lib.hid h.list
  have HQ := Lib.hid h
  have HC := Lib.hid hcall
  have HI := Lib.hid hI
  have HI0 := Lib.hid h0
  have HAS := Lib.hid haS
  have hz : xs.length ≤ 4096 := by have := h.len_le; have := h.lim_le; omega
  have hqw : q < w.heap.size := h.lt
  clear h hcall hI h0 haS
  obtain ⟨n, hn⟩ : ∃ n, n = xs.length := ⟨_, rfl⟩
  rw [← hn] at hz ⊢
  have HN := Lib.hid hn
  obtain ⟨gn, hgn⟩ : ∃ gn, gn = n - (xs.filter p).length := ⟨_, rfl⟩
  rw [← hgn]
  have HGN := Lib.hid hgn
  clear hgn
  go_enter Try.func24, Try.ntmps24
  go_wp2_with fail
  refine HL.out.mono ?_
  rintro e w1 ⟨v, rfl, hown, hb⟩
  have HO := Lib.hid hown
  have HB := Lib.hid hb
  have HI1 := Lib.hid (HI.out _ _ _ HI0.out (Chg.ofBelow hb _))
  obtain ⟨a, c, rfl⟩ := Kd.R_slice hown
  rw [← hn] at HO ⊢
  clear hb hn HL HI0 hown
  have hsz : w.heap.size ≤ w1.heap.size := HB.out.size
  go_wp2_with fail
  go_loopw [5, 16] (fun l i wr => ∃ k : Nat, k ≤ n ∧ i = .int .i64 k ∧ ∃ m a' c', l = .slice a' m c' ∧ m ≤ k ∧ (m = 0 → a' = none ∧ c' = 0) ∧ Hid (m = ((xs.take k).filter p).length) ∧ Hid (kJ.R 48 wr w1.heap.size (fun _ => True) (.slice a' m c') ((xs.take k).filter p)) ∧ Hid (I k wr) ∧ Hid (Chg (fun b => b = ab) w1 wr)) (fun _ i _ => n - (intOf i).toNat)
  case atStart => exact ⟨0, Nat.zero_le _, rfl, 0, none, 0, rfl, Nat.le_refl _, (fun _ => ⟨rfl, rfl⟩), Lib.hid (by simp), Lib.hid (Kd.R_nil _ _ _ _ _), HI1, Lib.hid (Chg.refl _ _)⟩
  case round =>
    obtain ⟨k, hk, rfl, m, a', c', rfl, hmk, hm0, hml, hR, hIk, hB⟩ := hrel
    by_cases hlt : k < n
    · have hkl : k < xs.length := by rw [← HN.out]; exact hlt
      obtain ⟨x, hx⟩ : ∃ x, xs[k]? = some x := ⟨_, List.getElem?_eq_getElem hkl⟩
      obtain ⟨g, c2, e2, hge, hgl, -⟩ := Kd.R_form HO.out (by omega)
      simp only [Value.slice.injEq] at e2
      obtain ⟨rfl, -, rfl⟩ := e2
      have HM0 := Lib.hid hm0
      obtain ⟨y0, y1, y2, y3⟩ := kJ_cells HO.out hx
      have hga : ¬ g = ab := by omega
      have x0 := hB.out.cell hga y0
      have x1 := hB.out.cell hga y1
      have x2 := hB.out.cell hga y2
      have x3 := hB.out.cell hga y3
      have HTS := Lib.hid (show xs.take (k + 1) = xs.take k ++ [x] by rw [List.take_add_one, hx]; rfl)
      have HCC := Lib.hid (fun W (hb : Below wr.heap.size wr W) => HC.out k x W hkl (HI.out _ _ _ hIk.out (Chg.ofBelow hb _)))
      have hbw := hB.out.size
      clear hx hkl y0 y1 y2 y3 hm0 hIk
      go_wp2_with fail
      refine (HCC.out _ (by first | exact Below.refl _ _ | exact (Below.refl _ _).alloc (Nat.le_refl _) _)).mono ?_
      rintro e w2 ⟨rfl, hI2, hc2⟩
      obtain ⟨v0, v1, v2, v3⟩ := box_cells (x := x) (hc2.heap (heap_alloc_new wr _) (by show ¬ wr.heap.size = ab; omega))
      have hC2 : Chg (fun b => b = ab) wr w2 := Chg.trans (by repeat (first | exact Chg.refl _ _ | refine Chg.alloc ?_ _ | refine Chg.drew ?_)) hc2
      have hB2 := Lib.hid (hB.out.trans hC2)
      have hR2 := Lib.hid (Kd.R_step (Kd.R_bound hR.out) (fun b hb hlt => hC2.block b hlt (by have := hb.2.1; omega)))
      have HI2 := Lib.hid hI2
      have hw12 : w1.heap.size ≤ w2.heap.size := hB2.out.size
      clear HCC hc2 hC2 hI2 hR hB
      cases hp : p x with
      | true =>
        have HXS := Lib.hid (show (xs.take (k + 1)).filter p = (xs.take k).filter p ++ [x] by rw [HTS.out]; simp [List.filter_append, hp])
        go_wp2_with (first
          | (at_builtin; go_loud (refine Kd.R_append kJ (w0 := w2) w1.heap.size rfl (.tmp 23) (.tmp 25) 43 48 (.agg #[.int .i64 0, .int .i64 0, .int .i64 0, .int .i64 0]) 32 rfl Try.underlying43 infoJ rfl (by decide) (by omega) _ ((xs.take k).filter p) x (cJ x) (fun _ => True) (fun _ => False) rfl rfl (k48_mkM _ _ _ _) (fun _ hk => hk.elim) (fun _ _ => trivial) (Kd.R_mono hR2.out (fun _ _ => trivial)) (Below.refl _ _) hw12 (by have := hml.out; omega) ?_; intro v7 w7 hR7 hB7 hg7 hat7))
          | fail)
        have HR7 := Lib.hid (show kJ.R 48 w7 w1.heap.size (fun _ => True) v7 ((xs.take (k + 1)).filter p) by rw [HXS.out]; exact hR7)
        obtain ⟨a7, c7, e7⟩ := Kd.R_slice HR7.out
        subst e7
        have HB7 := Lib.hid (show Chg (fun b => b = ab) w1 w7 from ⟨hB7.os.trans hB2.out.os, hB7.tape.trans hB2.out.tape, hB7.output.trans hB2.out.output, Nat.le_trans hB2.out.size hB7.size, fun b hb hn => (hB7.block b hb).trans (hB2.out.block b hb hn)⟩)
        have HI7 := Lib.hid (HI.out _ _ _ HI2.out ⟨hB7.os, hB7.tape, hB7.output, hB7.size, fun b hb hn => hB7.block b (by rcases Nat.lt_or_ge b w1.heap.size with h | h; exact h; exact absurd (.inr (by omega)) hn)⟩)
        have hlen7 : ((xs.take (k + 1)).filter p).length ≤ k + 1 := Nat.le_trans (List.length_filter_le _ _) (by simp; omega)
        have hlen8 : ((xs.take (k + 1)).filter p).length ≠ 0 := by rw [HXS.out]; simp
        clear hR7 hB7 hg7 hat7
        go_wp2
        go_roundw
        case rel => exact ⟨k + 1, by omega, by go_num, _, a7, c7, rfl, hlen7, (fun h => absurd h hlen8), Lib.hid rfl, HR7, HI7, HB7⟩
        case measure => simp [intOf]; omega
      | false =>
        have HXS := Lib.hid (show (xs.take (k + 1)).filter p = (xs.take k).filter p by rw [HTS.out]; simp [List.filter_append, hp])
        go_wp2
        go_roundw
        case rel => exact ⟨k + 1, by omega, by go_num, m, _, _, rfl, by omega, HM0.out, Lib.hid (by rw [HXS.out]; exact hml.out), Lib.hid (by rw [HXS.out]; exact Kd.R_mono hR2.out (fun _ _ => trivial)), HI2, hB2⟩
        case measure => simp [intOf]; omega
    · obtain rfl : k = n := by omega
      have htk : xs.take k = xs := by rw [HN.out, List.take_length]
      rw [htk] at hR hml
      have HML := Lib.hid hml.out
      have hcw := Chg.trans (Chg.ofBelow HB.out (fun b => b = ab)) hB.out
      have HCW := Lib.hid hcw
      have HQr := Lib.hid (HQ.out.chg hcw (fun b e => by have e' : b = ab := e; rw [e']; exact HAS.out))
      have HF := Lib.hid (show gn = k - m by rw [HGN.out, ← hml.out])
      have HRr := Lib.hid hR.out
      have HIr := Lib.hid hIk.out
      have hsw := hcw.size
      clear htk hcw hR hml hIk hB
      by_cases hgo : m = k
      · subst hgo
        have hfe : xs.filter p = xs := by
          have := HML.out
          rw [HN.out] at this
          exact List.filter_eq_self.2 (List.length_filter_eq_length_iff.1 this.symm)
        have HFE := Lib.hid hfe
        clear hfe hm0
        go_wp2_with fail
        go_ret
        refine ⟨by rw [HF.out]; simp, ?_, HIr.out, HCW.out.mono (fun _ _ e => .inr e)⟩
        rw [HFE.out]
        exact ⟨⟨.inl HQr.out.1.1, fun b s => s.elim (fun s => HQr.out.1.2 b s) (fun s => s.2)⟩, HQr.out.2.imp id (fun ⟨g, n, cap, rs, h1, h2, h3⟩ => ⟨g, n, cap, rs, h1, h2, .inl h3⟩)⟩
      · obtain ⟨r0, hblk⟩ := HQr.out.blk
        rw [← HN.out] at hblk
        have c0 : wr.cell? ⟨q, 0, none⟩ = some r0 := by simp [World.cell?, hblk]
        have c1 : wr.cell? ⟨q, 1, none⟩ = some (.int .i64 0) := by simp [World.cell?, hblk]
        have c2 : wr.cell? ⟨q, 2, none⟩ = some (.int .i64 (k : Int)) := by simp [World.cell?, hblk]
        have z0 : wr.frozen? ⟨q, 0, none⟩ = false := by simp [World.frozen?, hblk]
        have z1 : wr.frozen? ⟨q, 1, none⟩ = false := by simp [World.frozen?, hblk]
        have z2 : wr.frozen? ⟨q, 2, none⟩ = false := by simp [World.frozen?, hblk]
        have HM0 := Lib.hid hm0
        clear hblk hm0
        go_wp2_with fail
        go_ret
        have e0 : ((k : Int) - (m : Int)) = ((k - m : Nat) : Int) := by omega
        have hmle : m ≤ lim := by have := HQr.out.len_le; rw [← HN.out] at this; omega
        have hR' := HRr.out
        have hM0' := HM0.out
        have hml := HML.out
        refine ⟨by show Ending.returned (.int .i64 ((k : Int) - (m : Int))) = _; rw [HF.out, e0], ?_, ?_, ?_⟩
        · subst hml
          have := HQr.out.reset (S' := Aft S w wr) hR' hM0' (by omega) hmle (.inl HQr.out.1.1) (fun b s => s.elim (fun s => HQr.out.1.2 b s) (fun s => s.2)) (fun b h1 h2 => .inr ⟨by omega, h2⟩)
          have e : ∀ W' : World, W'.heap.size = wr.heap.size → Aft S w W' = Aft S w wr := fun W' h => by funext b; unfold Aft; rw [h]
          rw [e _ (by simp)]
          exact this
        · exact HI.out _ _ _ HIr.out ((((Chg.refl _ wr).setCell ⟨q, 0, none⟩ _ (.inl HQr.out.1.1)).setCell ⟨q, 1, none⟩ _ (.inl HQr.out.1.1)).setCell ⟨q, 2, none⟩ _ (.inl HQr.out.1.1))
        · exact (((HCW.out.mono (T := fun b => S b ∨ b = ab) (fun _ _ e => .inr e)).setCell ⟨q, 0, none⟩ _ (.inl HQr.out.1.1)).setCell ⟨q, 1, none⟩ _ (.inl HQr.out.1.1)).setCell ⟨q, 2, none⟩ _ (.inl HQr.out.1.1)
end Go.Proofs.Ytahaclglkbgpcaa
