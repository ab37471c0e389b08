/- Of the text TkL3 only what this claim needs (shake.py, this repo's). -/
import Derived.Test.YtkfjlkpickeobaaDoorZTkE1
import Derived.Test.YtkfjlkpickeobaaDoorZTkIa
import Derived.Test.YtkfjlkpickeobaaDoorZTmE
set_option linter.unusedVariables false
set_option linter.unusedSimpArgs false
namespace Go.Proofs.YtkfjlkpickeobaaDoor
open Go.RowKit
open Go.Proofs.YtkfjlkpickeobaaDoorW.PrintWords (Kd Drawn0 Kept rd rdOf ReadsRow)
open Go.Proofs.YtkfjlkpickeobaaDoor.PTaskRuns
set_option maxRecDepth 100000

/-- What is carried over the pushes. -/
structure RE (w : World) (bt : Nat) (T : Tk) (v : Value) (W : World) : Prop where
  t : TX W bt T v
  be : Below w.heap.size w W
theorem RE.below {w W W' : World} {bt : Nat} {T : Tk} {v : Value} (h : RE w bt T v W) (hb : Below W.heap.size W W') : RE w bt T v W' := ⟨h.t.below hb, below_call h.be (Nat.le_refl _) hb⟩

theorem fresh8 {W w2 : World} {a0 a1 a2 a3 a4 a5 a6 a7 : Value} {ty : TypeId} (hb : Below (W.drew.alloc (.cells #[a0, a1, a2, a3, a4, a5, a6, a7] ty)).heap.size (W.drew.alloc (.cells #[a0, a1, a2, a3, a4, a5, a6, a7] ty)) w2) :
    w2.heap[W.heap.size]? = some (.cells #[a0, a1, a2, a3, a4, a5, a6, a7] ty (0, 0)) := by
  refine (hb.block W.heap.size (by simp)).trans ?_
  exact alloc_new W.drew _
theorem blk8 {w2 : World} {b : Nat} {a0 a1 a2 a3 a4 a5 a6 a7 : Value} {ty : TypeId} (h : w2.heap[b]? = some (.cells #[a0, a1, a2, a3, a4, a5, a6, a7] ty (0, 0))) :
    (w2.cell? ⟨b, 0, none⟩ = some a0 ∧ w2.cell? ⟨b, 1, none⟩ = some a1 ∧ w2.cell? ⟨b, 2, none⟩ = some a2 ∧ w2.cell? ⟨b, 3, none⟩ = some a3 ∧ w2.cell? ⟨b, 4, none⟩ = some a4 ∧ w2.cell? ⟨b, 5, none⟩ = some a5 ∧ w2.cell? ⟨b, 6, none⟩ = some a6 ∧ w2.cell? ⟨b, 7, none⟩ = some a7) ∧
    (w2.frozen? ⟨b, 0, none⟩ = false ∧ w2.frozen? ⟨b, 1, none⟩ = false ∧ w2.frozen? ⟨b, 2, none⟩ = false ∧ w2.frozen? ⟨b, 3, none⟩ = false ∧ w2.frozen? ⟨b, 4, none⟩ = false ∧ w2.frozen? ⟨b, 5, none⟩ = false ∧ w2.frozen? ⟨b, 6, none⟩ = false ∧ w2.frozen? ⟨b, 7, none⟩ = false) := by
  refine ⟨⟨?_, ?_, ?_, ?_, ?_, ?_, ?_, ?_⟩, ?_, ?_, ?_, ?_, ?_, ?_, ?_, ?_⟩ <;> simp [World.cell?, World.frozen?, h]

/-- A task is laid into a block over what stood there. -/
theorem chain8' {W : World} {b : Nat} {ty : TypeId} {a0 a1 a2 a3 a4 a5 a6 a7 u0 u1 u2 u3 u4 u5 u6 u7 : Value} (h : W.heap[b]? = some (.cells #[a0, a1, a2, a3, a4, a5, a6, a7] ty (0, 0))) :
    (((((((((W.setCell ⟨b, 0, none⟩ u0).setCell ⟨b, 1, none⟩ u1).setCell ⟨b, 2, none⟩ u2).setCell ⟨b, 3, none⟩ u3).setCell ⟨b, 4, none⟩ u4).setCell ⟨b, 5, none⟩ u5).setCell ⟨b, 6, none⟩ u6).setCell ⟨b, 7, none⟩ u7)).heap[b]? = some (.cells #[u0, u1, u2, u3, u4, u5, u6, u7] ty (0, 0)) := by
  have e0 : ((W.setCell ⟨b, 0, none⟩ u0)).heap[b]? = some (.cells #[u0, a1, a2, a3, a4, a5, a6, a7] ty (0, 0)) := heap_setCell_same _ b 0 _ _ u0 h
  have e1 : (((W.setCell ⟨b, 0, none⟩ u0).setCell ⟨b, 1, none⟩ u1)).heap[b]? = some (.cells #[u0, u1, a2, a3, a4, a5, a6, a7] ty (0, 0)) := heap_setCell_same _ b 1 _ _ u1 e0
  have e2 : ((((W.setCell ⟨b, 0, none⟩ u0).setCell ⟨b, 1, none⟩ u1).setCell ⟨b, 2, none⟩ u2)).heap[b]? = some (.cells #[u0, u1, u2, a3, a4, a5, a6, a7] ty (0, 0)) := heap_setCell_same _ b 2 _ _ u2 e1
  have e3 : (((((W.setCell ⟨b, 0, none⟩ u0).setCell ⟨b, 1, none⟩ u1).setCell ⟨b, 2, none⟩ u2).setCell ⟨b, 3, none⟩ u3)).heap[b]? = some (.cells #[u0, u1, u2, u3, a4, a5, a6, a7] ty (0, 0)) := heap_setCell_same _ b 3 _ _ u3 e2
  have e4 : ((((((W.setCell ⟨b, 0, none⟩ u0).setCell ⟨b, 1, none⟩ u1).setCell ⟨b, 2, none⟩ u2).setCell ⟨b, 3, none⟩ u3).setCell ⟨b, 4, none⟩ u4)).heap[b]? = some (.cells #[u0, u1, u2, u3, u4, a5, a6, a7] ty (0, 0)) := heap_setCell_same _ b 4 _ _ u4 e3
  have e5 : (((((((W.setCell ⟨b, 0, none⟩ u0).setCell ⟨b, 1, none⟩ u1).setCell ⟨b, 2, none⟩ u2).setCell ⟨b, 3, none⟩ u3).setCell ⟨b, 4, none⟩ u4).setCell ⟨b, 5, none⟩ u5)).heap[b]? = some (.cells #[u0, u1, u2, u3, u4, u5, a6, a7] ty (0, 0)) := heap_setCell_same _ b 5 _ _ u5 e4
  have e6 : ((((((((W.setCell ⟨b, 0, none⟩ u0).setCell ⟨b, 1, none⟩ u1).setCell ⟨b, 2, none⟩ u2).setCell ⟨b, 3, none⟩ u3).setCell ⟨b, 4, none⟩ u4).setCell ⟨b, 5, none⟩ u5).setCell ⟨b, 6, none⟩ u6)).heap[b]? = some (.cells #[u0, u1, u2, u3, u4, u5, u6, a7] ty (0, 0)) := heap_setCell_same _ b 6 _ _ u6 e5
  have e7 : (((((((((W.setCell ⟨b, 0, none⟩ u0).setCell ⟨b, 1, none⟩ u1).setCell ⟨b, 2, none⟩ u2).setCell ⟨b, 3, none⟩ u3).setCell ⟨b, 4, none⟩ u4).setCell ⟨b, 5, none⟩ u5).setCell ⟨b, 6, none⟩ u6).setCell ⟨b, 7, none⟩ u7)).heap[b]? = some (.cells #[u0, u1, u2, u3, u4, u5, u6, u7] ty (0, 0)) := heap_setCell_same _ b 7 _ _ u7 e6
  exact e7
theorem chain8 {W : World} {b : Nat} {U T1 : Tk} {u v : Value} (h : W.heap[b]? = some (.cells (U.cs u).1 26 (0, 0))) :
    ((((((((W.setCell ⟨b, 0, none⟩ (.int .i64 T1.p)).setCell ⟨b, 1, none⟩ v).setCell ⟨b, 2, none⟩ (.int .i64 T1.g)).setCell ⟨b, 3, none⟩ (.int .i64 T1.o)).setCell ⟨b, 4, none⟩ (.int .i64 T1.l)).setCell ⟨b, 5, none⟩ (.int .i64 T1.d)).setCell ⟨b, 6, none⟩ (.int .i64 T1.c)).setCell ⟨b, 7, none⟩ (.int .i64 T1.t)).heap[b]? = some (.cells (T1.cs v).1 26 (0, 0)) := chain8' h
theorem chain_ne {W : World} {b k : Nat} {T1 : Tk} {v : Value} (hk : k ≠ b) : ((((((((W.setCell ⟨b, 0, none⟩ (.int .i64 T1.p)).setCell ⟨b, 1, none⟩ v).setCell ⟨b, 2, none⟩ (.int .i64 T1.g)).setCell ⟨b, 3, none⟩ (.int .i64 T1.o)).setCell ⟨b, 4, none⟩ (.int .i64 T1.l)).setCell ⟨b, 5, none⟩ (.int .i64 T1.d)).setCell ⟨b, 6, none⟩ (.int .i64 T1.c)).setCell ⟨b, 7, none⟩ (.int .i64 T1.t)).heap[k]? = W.heap[k]? := by
  have s : ∀ (W : World) (j : Nat) (x : Value), (W.setCell ⟨b, j, none⟩ x).heap[k]? = W.heap[k]? := fun W j x => Below.heap_setCell W ⟨b, j, none⟩ x k hk
  rw [s, s, s, s, s, s, s, s]
theorem chain_R {W : World} {b base : Nat} {T1 : Tk} {v u : Value} {js : List Jb} (h : kJ.R 28 W base (fun _ => True) u js) (hb : b < base) : kJ.R 28 ((((((((W.setCell ⟨b, 0, none⟩ (.int .i64 T1.p)).setCell ⟨b, 1, none⟩ v).setCell ⟨b, 2, none⟩ (.int .i64 T1.g)).setCell ⟨b, 3, none⟩ (.int .i64 T1.o)).setCell ⟨b, 4, none⟩ (.int .i64 T1.l)).setCell ⟨b, 5, none⟩ (.int .i64 T1.d)).setCell ⟨b, 6, none⟩ (.int .i64 T1.c)).setCell ⟨b, 7, none⟩ (.int .i64 T1.t)) base (fun _ => True) u js :=
  Kd.R_mono (Kd.R_step (Kd.R_bound h) (fun k hk _ => chain_ne (by have := hk.2.1; omega))) (fun _ _ => trivial)
theorem merge3 {P G : Nat → Value → World → Prop} {Q : Prop} (main : Hid (∀ b v W, G b v W → P b v W) → Q) (side : ∀ b v W, G b v W → P b v W) : Q := main (Lib.hid side)
/-- The answer in its box, the old task still in its own. -/
structure RG (wr : World) (bt : Nat) (T T1 : Tk) (u : Value) (b : Nat) (v : Value) (W : World) : Prop where
  n : W.heap[b]? = some (.cells (T1.cs v).1 26 (0, 0))
  r : kJ.R 28 W (bt + 1) (fun _ => True) v T1.js
  o : W.heap[bt]? = some (.cells (T.cs u).1 26 (0, 0))
  be : Below wr.heap.size wr W
  lt : bt < b
theorem RG.alloc {wr w2 : World} {bt base : Nat} {T T1 : Tk} {u v : Value} (ht : TX wr bt T u) (hR : kJ.R 28 w2 base (fun _ => True) v T1.js) (hbase : wr.heap.size ≤ base) (hb : Below wr.heap.size wr w2) :
    RG wr bt T T1 u w2.heap.size v (w2.alloc (.cells #[.int .i64 T1.p, v, .int .i64 T1.g, .int .i64 T1.o, .int .i64 T1.l, .int .i64 T1.d, .int .i64 T1.c, .int .i64 T1.t] 26)) := by
  have hba := hb.alloc hb.size (.cells #[.int .i64 T1.p, v, .int .i64 T1.g, .int .i64 T1.o, .int .i64 T1.l, .int .i64 T1.d, .int .i64 T1.c, .int .i64 T1.t] 26)
  have hlt := ht.lt
  exact ⟨alloc_new w2 _, Kd.R_lower (Kd.R_alloc hR _) (by omega), (hba.block bt hlt).trans ht.blk, hba, by have := hb.size; omega⟩
theorem RG.store {wr w2 : World} {bt base : Nat} {T T1 U : Tk} {u v z : Value} (ht : TX wr bt T u) (hR : kJ.R 28 w2 base (fun _ => True) v T1.js) (hbase : wr.heap.size < base) (hb : Below wr.heap.size wr w2) (hn : w2.heap[wr.heap.size]? = some (.cells (U.cs z).1 26 (0, 0))) :
    RG wr bt T T1 u wr.heap.size v ((((((((w2.setCell ⟨wr.heap.size, 0, none⟩ (.int .i64 T1.p)).setCell ⟨wr.heap.size, 1, none⟩ v).setCell ⟨wr.heap.size, 2, none⟩ (.int .i64 T1.g)).setCell ⟨wr.heap.size, 3, none⟩ (.int .i64 T1.o)).setCell ⟨wr.heap.size, 4, none⟩ (.int .i64 T1.l)).setCell ⟨wr.heap.size, 5, none⟩ (.int .i64 T1.d)).setCell ⟨wr.heap.size, 6, none⟩ (.int .i64 T1.c)).setCell ⟨wr.heap.size, 7, none⟩ (.int .i64 T1.t)) := by
  have hlt := ht.lt
  have hc : Below wr.heap.size wr ((((((((w2.setCell ⟨wr.heap.size, 0, none⟩ (.int .i64 T1.p)).setCell ⟨wr.heap.size, 1, none⟩ v).setCell ⟨wr.heap.size, 2, none⟩ (.int .i64 T1.g)).setCell ⟨wr.heap.size, 3, none⟩ (.int .i64 T1.o)).setCell ⟨wr.heap.size, 4, none⟩ (.int .i64 T1.l)).setCell ⟨wr.heap.size, 5, none⟩ (.int .i64 T1.d)).setCell ⟨wr.heap.size, 6, none⟩ (.int .i64 T1.c)).setCell ⟨wr.heap.size, 7, none⟩ (.int .i64 T1.t)) := below_set8 hb (Nat.le_refl _) _ _ _ _ _ _ _ _
  exact ⟨chain8 hn, Kd.R_lower (chain_R hR hbase) (by omega), (hc.block bt hlt).trans ht.blk, hc, hlt⟩
theorem RG.below {wr W W' : World} {bt b : Nat} {T T1 : Tk} {u v : Value} (h : RG wr bt T T1 u b v W) (hb : Below W.heap.size W W') : RG wr bt T T1 u b v W' :=
  ⟨(hb.block b (Array.getElem?_eq_some_iff.1 h.n).1).trans h.n, Kd.R_below h.r hb, (hb.block bt (Array.getElem?_eq_some_iff.1 h.o).1).trans h.o, below_call h.be (Nat.le_refl _) hb, h.lt⟩
theorem tick_bd {x : Jb} {R : List Jb} {fr g0 d0 c0 t0 late : Int} {m : Nat} {T : Tk} (h : TickI x R fr g0 d0 c0 t0 m T late) (h0 : 0 ≤ t0) (h1 : t0 ≤ d0 + c0) : 0 ≤ late ∧ late ≤ d0 + c0 + 1 := by
  rcases h with ⟨-, -, rfl⟩ | ⟨-, d1, c1, t1, -, rfl, h2, h3, h4, h5, h6⟩ <;> omega
theorem RG.done {wr W w : World} {bt b : Nat} {T T1 : Tk} {u v : Value} (h : RG wr bt T T1 u b v W) (hB : w.heap.size ≤ bt) (hw : Below w.heap.size w wr) (hs : bt < wr.heap.size) : RE w bt T1 v ((((((((W.setCell ⟨bt, 0, none⟩ (.int .i64 T1.p)).setCell ⟨bt, 1, none⟩ v).setCell ⟨bt, 2, none⟩ (.int .i64 T1.g)).setCell ⟨bt, 3, none⟩ (.int .i64 T1.o)).setCell ⟨bt, 4, none⟩ (.int .i64 T1.l)).setCell ⟨bt, 5, none⟩ (.int .i64 T1.d)).setCell ⟨bt, 6, none⟩ (.int .i64 T1.c)).setCell ⟨bt, 7, none⟩ (.int .i64 T1.t)) := by
  refine ⟨⟨chain8 h.o, TR.of_R (chain_R h.r (by omega))⟩, ?_⟩
  have h1 : Below w.heap.size w W := below_call hw (Nat.le_refl _) h.be
  exact below_set8 h1 hB _ _ _ _ _ _ _ _

theorem acc6 {w2 : World} {b : Nat} {a0 a1 a2 a3 a4 a5 : Value} {ty : TypeId} (h : w2.heap[b]? = some (.cells #[a0, a1, a2, a3, a4, a5] ty (0, 0))) :
    w2.cell? ⟨b, 0, none⟩ = some a0 ∧ w2.cell? ⟨b, 1, none⟩ = some a1 ∧ w2.cell? ⟨b, 2, none⟩ = some a2 ∧ w2.cell? ⟨b, 3, none⟩ = some a3 ∧ w2.cell? ⟨b, 4, none⟩ = some a4 ∧ w2.cell? ⟨b, 5, none⟩ = some a5 := by
  refine ⟨?_, ?_, ?_, ?_, ?_, ?_⟩ <;> simp [World.cell?, h]
theorem acc_below {w w2 : World} {b : Nat} {o : Obj} (h : w.heap[b]? = some o) (hb : Below w.heap.size w w2) : w2.heap[b]? = some o := (hb.block b (Array.getElem?_eq_some_iff.1 h).1).trans h

def findLoop (n : Nat) : Code → Option Code
  | .loop c => findLoop n c
  | .seq a b => match findLoop n a with
    | some c => some c
    | none => findLoop n b
  | .block k c => if k == n then some c else findLoop n c
  | .scope c => findLoop n c
  | .cond _ a b => match findLoop n a with
    | some c => some c
    | none => findLoop n b
  | _ => none
noncomputable def loopE (n : Nat) : Code := ((Tryd.f7.body.bind (findLoop n)).getD .skip)

set_option maxHeartbeats 8000000 in
theorem loop3 {x2 x3 x4 x6 x7 x8 x9 x16 x17 x18 x19 x20 x21 x22 x23 x24 x25 x26 x27 x28 x29 x30 x31 x32 x33 x34 x35 x36 x37 x38 x39 x40 x41 x42 x43 x44 x45 x46 x47 x48 x49 x50 x51 x52 x53 x54 x55 x56 x57 x58 x59 x60 x61 x62 x63 x64 x65 x66 x67 x68 x69 x70 x71 x72 x73 x74 x75 x76 x77 x78 x79 x80 x81 x82 x83 x84 x85 x86 x87 x88 x89 x90 x91 x92 x93 x94 x95 x96 x97 x98 x99 x100 x101 x102 x103 x104 x105 x106 x107 x108 x109 x110 x111 x112 x113 x114 x115 x116 x117 x118 x119 x120 x121 x122 x123 x124 x125 x126 x127 x128 x129 x130 x131 x132 x133 x134 x135 x136 x137 x138 x139 x140 x141 x142 x143 x144 x145 x146 x147 x148 x149 x150 x151 x152 x153 x154 x155 x156 x157 x158 x159 x160 x161 x162 x163 x164 x165 x166 x167 x168 x169 x170 x171 x172 x173 x174 x175 x176 x177 x178 x179 x180 x181 x182 x183 x184 x185 x186 x187 x188 x189 x190 x191 x192 x193 x194 x195 x196 x197 x198 x199 x200 x201 x202 x203 x204 x205 x206 x207 x208 x209 x210 x211 x212 x213 x214 x215 x216 x217 x218 x219 x220 x221 x222 x223 x224 x225 x226 x227 x228 x229 x230 x231 x232 x233 x234 x235 x236 x237 x238 x239 x240 x241 x242 x243 x244 x245 x246 x247 x248 x249 x250 x251 x252 x253 x254 x255 x256 x257 x258 x259 x260 x261 x262 x263 x264 x265 x266 x267 x268 x269 x270 x271 x272 x273 x274 x275 x276 x277 x278 x279 x280 x281 x282 x283 x284 x285 x286 x287 x288 x289 x290 : Value} {wr0 w : World} {n c b o bt k : Nat} {L : List Jb} {x : Jb} {fr g d0 c0 q0 late0 N E : Int} {T : Tk} {v : Value} {K : Act → World → Prop} {Q : Exit → Act → World → Prop}
    (hj : JAt w b o k x) (HN : Hid (L.length = n)) (hn8 : ¬ 8 < n) (HF : Hid (0 ≤ fr ∧ fr ≤ 1048576)) (HG : Hid (∀ y ∈ L, goodJ y)) (HGX : Hid (goodJ x)) (HBT : Hid (w.heap.size ≤ bt)) (hlt : k < n)
    (HNE : Hid (needF x = N ∧ endF x = E)) (hQ : Hid (q0 = fr + g ∧ 0 ≤ g ∧ g ≤ 480)) (hlb0 : 0 ≤ late0 ∧ late0 ≤ 8) (HTI : Hid (TickI x (L.drop (k + 1)) fr g d0 c0 late0 0 T late0))
    (HD : Hid (d0 + c0 = k ∧ 0 ≤ d0 ∧ 0 ≤ c0 ∧ 0 ≤ late0 ∧ late0 ≤ k ∧ (k : Int) ≤ g ∧ g ≤ 60 * k)) (HR0 : Hid (RE w bt T v wr0))
    (hK : Hid (∀ (m : Nat) (q late : Int) (T : Tk) (v : Value) (W : World) (n4 n15 n16 n17 n18 n19 n20 n21 n145 n146 n147 n148 n149 n150 n151 n152 n153 n154 n155 n156 n157 n158 n159 n160 n161 n162 n163 n164 n165 n166 n167 n168 n169 n170 n171 n172 n173 n174 n175 n176 n177 n178 n179 n180 n181 n182 n183 n184 n185 n186 n187 n188 n189 n190 n191 n192 n193 n194 n195 n196 n197 n198 n199 n200 n201 n202 n203 n204 n205 n206 n207 n208 n209 n210 n211 n212 n213 n214 n215 n216 n217 n218 n219 n220 n221 n222 n223 n224 : Value), (m : Int) = N → q = fr + g + m → TickI x (L.drop (k + 1)) fr g d0 c0 late0 m T late → RE w bt T v W → K ⟨#[.slice (some ⟨b, o, none⟩) n c, .int .i64 fr, x2, x3, n4, .pointer (some ⟨bt, 0, none⟩), x6, x7, x8, x9, .int .i64 q, .int .i64 late, .int .i64 (k : Int), .int .i64 N, .int .i64 E, n15, n16, n17, n18, n19, n20, n21, x22, x23, x24, x25, x26, x27, x28, x29, x30, x31, x32, x33, x34, x35, x36, x37, x38, x39, x40, x41, x42, x43, x44, x45, x46, x47, x48, x49, x50, x51, x52, x53, x54, x55, x56, x57, x58, x59, x60, x61, x62, x63, x64, x65, x66, x67, x68, x69, x70, x71, x72, x73, x74, x75, x76, x77, x78, x79, x80, x81, x82, x83, x84, x85, x86, x87, x88, x89, x90, x91, x92, x93, x94, x95, x96, x97, x98, x99, x100, x101, x102, x103, x104, x105, x106, x107, x108, x109, x110, x111, x112, x113, x114, x115, x116, x117, x118, x119, x120, x121, x122, x123, x124, x125, x126, x127, x128, x129, x130, x131, x132, x133, x134, x135, x136, x137, x138, x139, x140, x141, x142, x143, x144, n145, n146, n147, n148, n149, n150, n151, n152, n153, n154, n155, n156, n157, n158, n159, n160, n161, n162, n163, n164, n165, n166, n167, n168, n169, n170, n171, n172, n173, n174, n175, n176, n177, n178, n179, n180, n181, n182, n183, n184, n185, n186, n187, n188, n189, n190, n191, n192, n193, n194, n195, n196, n197, n198, n199, n200, n201, n202, n203, n204, n205, n206, n207, n208, n209, n210, n211, n212, n213, n214, n215, n216, n217, n218, n219, n220, n221, n222, n223, n224, x225, x226, x227, x228, x229, x230, x231, x232, x233, x234, x235, x236, x237, x238, x239, x240, x241, x242, x243, x244, x245, x246, x247, x248, x249, x250, x251, x252, x253, x254, x255, x256, x257, x258, x259, x260, x261, x262, x263, x264, x265, x266, x267, x268, x269, x270, x271, x272, x273, x274, x275, x276, x277, x278, x279, x280, x281, x282, x283, x284, x285, x286, x287, x288, x289, x290], []⟩ W)) :
    Code.wp Tryd.prog (loopE 4) (Exit.inBlock 4 (Exit.inBlock 3 (Exit.then K Q))) ⟨#[.slice (some ⟨b, o, none⟩) n c, .int .i64 fr, x2, x3, x4, .pointer (some ⟨bt, 0, none⟩), x6, x7, x8, x9, .int .i64 q0, .int .i64 late0, .int .i64 (k : Int), .int .i64 N, .int .i64 E, .int .i64 1, x16, x17, x18, x19, x20, x21, x22, x23, x24, x25, x26, x27, x28, x29, x30, x31, x32, x33, x34, x35, x36, x37, x38, x39, x40, x41, x42, x43, x44, x45, x46, x47, x48, x49, x50, x51, x52, x53, x54, x55, x56, x57, x58, x59, x60, x61, x62, x63, x64, x65, x66, x67, x68, x69, x70, x71, x72, x73, x74, x75, x76, x77, x78, x79, x80, x81, x82, x83, x84, x85, x86, x87, x88, x89, x90, x91, x92, x93, x94, x95, x96, x97, x98, x99, x100, x101, x102, x103, x104, x105, x106, x107, x108, x109, x110, x111, x112, x113, x114, x115, x116, x117, x118, x119, x120, x121, x122, x123, x124, x125, x126, x127, x128, x129, x130, x131, x132, x133, x134, x135, x136, x137, x138, x139, x140, x141, x142, x143, x144, x145, x146, x147, x148, x149, x150, x151, x152, x153, x154, x155, x156, x157, x158, x159, x160, x161, x162, x163, x164, x165, x166, x167, x168, x169, x170, x171, x172, x173, x174, x175, x176, x177, x178, x179, x180, x181, x182, x183, x184, x185, x186, x187, x188, x189, x190, x191, x192, x193, x194, x195, x196, x197, x198, x199, x200, x201, x202, x203, x204, x205, x206, x207, x208, x209, x210, x211, x212, x213, x214, x215, x216, x217, x218, x219, x220, x221, x222, x223, x224, x225, x226, x227, x228, x229, x230, x231, x232, x233, x234, x235, x236, x237, x238, x239, x240, x241, x242, x243, x244, x245, x246, x247, x248, x249, x250, x251, x252, x253, x254, x255, x256, x257, x258, x259, x260, x261, x262, x263, x264, x265, x266, x267, x268, x269, x270, x271, x272, x273, x274, x275, x276, x277, x278, x279, x280, x281, x282, x283, x284, x285, x286, x287, x288, x289, x290], []⟩ wr0 := by
  have hqb : 0 ≤ q0 ∧ q0 ≤ 1100000 := by have := hQ.out; have := HF.out; omega
  have hNB : 1 ≤ N ∧ N ≤ 60 := by have h := need_le HGX.out; have h2 := HGX.out.1; rw [HNE.out.1] at h; omega
  have HXB := Lib.hid HGX.out
  have hx1 := HGX.out.2.1
  have hx3 := HGX.out.2.2
  have hfo := HF.out
  have HJ := Lib.hid hj
  clear hj
  dsimp only
  conv => arg 2; whnf
  go_loopw [10, 11, 15] (fun qv lv kv wr => ∃ (m : Nat) (q late kk : Int) (T : Tk) (v : Value), (m : Int) ≤ N ∧ qv = .int .i64 q ∧ lv = .int .i64 late ∧ kv = .int .i64 kk ∧ (0 ≤ q ∧ q ≤ 1100000) ∧ (0 ≤ late ∧ late ≤ 100) ∧ (1 ≤ kk ∧ kk ≤ 61) ∧ Hid (q = fr + g + m ∧ kk = m + 1) ∧ Hid (TickI x (L.drop (k + 1)) fr g d0 c0 late0 m T late) ∧ Hid (RE w bt T v wr)) (fun _ _ i _ => 100 - (intOf i).toNat)
  case atStart => exact ⟨0, q0, late0, 1, T, v, by omega, rfl, rfl, rfl, hqb, by omega, by omega, Lib.hid (by have := hQ.out; omega), HTI, HR0⟩
  case round =>
    clear HR0 HTI
    obtain ⟨m, q, late, kk, T, v, hm, rfl, rfl, rfl, hqb, hlb, hkb, hK', hTI, hR⟩ := hrel
    by_cases hin : kk ≤ N
    · have hgb : 0 ≤ g ∧ g ≤ 500 := by have := hQ.out; omega
      obtain ⟨T1, wh, by_, hrun, hwork, hval, hwb, hjl, hjl1, hcase⟩ := tick (by rw [List.length_drop]; have := HN.out; omega) HGX.out (fun y hy => HG.out y (List.mem_of_mem_drop hy)) HF.out hgb HD.out.2.1 HD.out.2.2.1 HD.out.2.2.2.1 (by have := HD.out; omega) (by have := HD.out; omega) (by have := HNE.out.1; have := hK'.out; omega) hK'.out.1 hTI.out
      obtain ⟨wk, hwk⟩ : ∃ y, y = workF T := ⟨_, rfl⟩
      rw [← hwk] at hwork hwb
      have HRUN := Lib.hid hrun
      have HWORK := Lib.hid hwork
      have HWK := Lib.hid hwk
      have HVAL := Lib.hid hval
      have HJL : Hid (T.js.length ≤ 9223372036854775800) := Lib.hid (by omega)
      have HJL1 : Hid (T1.js.length ≤ 9223372036854775800) := Lib.hid (by omega)
      have HC := Lib.hid hcase
      obtain ⟨j0, j1, j2, j3⟩ : JAt wr b o k x := HJ.out.below hR.out.be
      have hinb : decide (kk ≤ N) = true := decide_eq_true hin
      have HKN := Lib.hid hin
      clear hrun hwork hwk hval hjl hjl1 hcase hgb
      obtain ⟨A2, c2, rfl, -, -⟩ := id hR.out.t.tr
      rcases HC.out with ⟨hm1, rfl, rfl, hT1⟩ | ⟨hm1, hwh, hby, hT1⟩
      · have hkn : kk < N := by have := HNE.out.1; have := hK'.out; omega
        have k1 : decide (kk = N) = false := decide_eq_false (by omega)
        have k2 : (kk == N) = false := by rw [beq_eq_false_iff_ne]; omega
        have HT1 := Lib.hid hT1
        clear hm1 hT1 HC hin
        obtain ⟨t0, t1, t2, t3, t4, t5, t6, t7⟩ := hR.out.t.t8
        go_wp2_with fail
        clear t0 t1 t2 t3 t4 t5 t6 t7
        refine (twork_c T (.slice A2 T.js.length c2) _ hR.out.t.tr HJL.out).mono ?_
        rintro e w4 ⟨rfl, hb⟩
        rw [← HWK.out]
        have HR4 := Lib.hid (hR.out.below hb)
        have HB4 := Lib.hid (below_call (Below.refl wr.heap.size wr) (Nat.le_refl _) hb)
        clear hb
        obtain ⟨t0, t1, t2, t3, t4, t5, t6, t7⟩ := HR4.out.t.t8
        go_wp2_with fail
        clear t0 t1 t2 t3 t4 t5 t6 t7
        refine (trun_any T (.slice A2 T.js.length c2) q _ HR4.out.t.tr HJL.out).mono ?_
        rintro e w5 ⟨v5, he, hRv, hb⟩
        rw [HRUN.out] at he hRv
        dsimp only at he hRv
        rw [errV_0] at he
        subst he
        obtain ⟨A3, c3, rfl⟩ := Kd.R_slice hRv
        obtain ⟨b7, hb7⟩ : ∃ b, b = w5.heap.size := ⟨_, rfl⟩
        obtain ⟨W6, hW6⟩ : ∃ W, W = w5.alloc (.cells (Tk.cs T1 (.slice A3 T1.js.length c3)).1 26) := ⟨_, rfl⟩
        have HZ : Hid (RG wr bt T T1 (.slice A2 T.js.length c2) b7 (.slice A3 T1.js.length c3) W6) := by
          rw [hW6, hb7]
          exact Lib.hid (RG.alloc hR.out.t hRv HB4.out.size (below_call HB4.out (Nat.le_refl _) hb))
        have lb : b < w5.heap.size := Nat.lt_of_lt_of_le (World.block_lt_of_cell? wr _ j3) (Nat.le_trans HB4.out.size hb.size)
        have j3' : w5.cell? ⟨b, o + k * 4 + 3, none⟩ = some (.int .i64 x.f3) := keep hb (keep HB4.out j3)
        have HW6 := Lib.hid hW6
        have Hb7 := Lib.hid hb7
        clear hRv hb hW6 hb7 HB4 HR4
        go_wp2_with fail
        rw [← HW6.out, ← Hb7.out]
        clear HW6 Hb7 lb j3'
        refine (twork_c T1 (.slice A3 T1.js.length c3) _ (TR.of_R HZ.out.r) HJL1.out).mono ?_
        rintro e w7 ⟨rfl, hb⟩
        rw [HWORK.out]
        replace HZ := Lib.hid (HZ.out.below hb)
        clear hb
        obtain ⟨⟨t0, t1, t2, t3, t4, t5, t6, t7⟩, -⟩ := blk8 HZ.out.n
        go_wp2_with fail
        clear t0 t1 t2 t3 t4 t5 t6 t7
        refine (tvalid_e T1 (.slice A3 T1.js.length c3) _ (TR.of_R HZ.out.r) HJL1.out).mono ?_
        rintro e w8 ⟨rfl, hb⟩
        rw [HVAL.out, errV_0]
        replace HZ := Lib.hid (HZ.out.below hb)
        clear hb
        obtain ⟨⟨t0, t1, t2, t3, t4, t5, t6, t7⟩, -⟩ := blk8 HZ.out.n
        obtain ⟨⟨p0, p1, p2, p3, p4, p5, p6, p7⟩, m0, m1, m2, m3, m4, m5, m6, m7⟩ := blk8 HZ.out.o
        have HRE := Lib.hid (HZ.out.done HBT.out hR.out.be hR.out.t.lt)
        have hbd := tick_bd HT1.out HD.out.2.2.2.1 (by have := HD.out; omega)
        have hdk := HD.out
        have HBD := Lib.hid (show 0 ≤ late ∧ late ≤ 100 by omega)
        have HREL := Lib.hid (show ((m + 1 : Nat) : Int) ≤ N ∧ (0 ≤ q + 1 ∧ q + 1 ≤ 1100000) ∧ (1 ≤ kk + 1 ∧ kk + 1 ≤ 61) by
          have h1 := hK'.out; have h2 := hQ.out; have h3 := HF.out; have h4 := hNB; have h5 := HKN.out
          refine ⟨?_, ?_, ?_⟩ <;> omega)
        clear hbd hdk
        go_wp2
        go_roundw
        case rel => exact ⟨m + 1, q + 1, late, kk + 1, T1, _, HREL.out.1, by go_num, by go_num, by go_num, HREL.out.2.1, HBD.out, HREL.out.2.2, Lib.hid (by have := hK'.out; omega), HT1, HRE⟩
        case measure => simp [intOf]; omega
      · have hkk : kk = N := by have := HNE.out.1; have := hK'.out; omega
        rw [HNE.out.2] at hwh
        obtain rfl : E = wh := hwh.symm
        have hbb : 0 ≤ by_ ∧ by_ ≤ 1100001 := by have := HF.out; rw [hby]; unfold byF; split <;> omega
        have HT1 := Lib.hid hT1
        have HBY := Lib.hid hby
        have HKK := Lib.hid hkk
        have k1 : decide (kk = N) = true := decide_eq_true hkk
        have k2 : (kk == N) = true := by rw [beq_iff_eq]; exact hkk
        have hE : E = 1 ∨ E = 2 := by have h := HNE.out.2; unfold endF at h; split at h <;> omega
        have k5 : (E == 0) = false := by rw [beq_eq_false_iff_ne]; omega
        have k6 : decide (E = 0) = false := decide_eq_false (by omega)
        have k7 : (E != 0) = true := by rw [bne_iff_ne]; omega
        clear hm1 hT1 HC hin hby hkk hE
        by_cases z3 : 0 < x.f3
        · have k3 : decide (0 < x.f3) = true := decide_eq_true z3
          by_cases z4 : 0 < q + 1 - fr - x.f3
          · have hby : by_ = q + 1 - fr - x.f3 := by rw [HBY.out]; exact if_pos ⟨z3, z4⟩
            have HBYE := Lib.hid hby
            have hp : 0 < by_ := by omega
            rw [if_pos hp] at HT1
            have k4 : decide (0 < by_) = true := decide_eq_true hp
            have mx : max (0 : Int) (q + 1 - fr - x.f3) = by_ := by rw [hby]; omega
            clear HBY z3 hby hp
            obtain ⟨t0, t1, t2, t3, t4, t5, t6, t7⟩ := hR.out.t.t8
            go_wp2_with fail
            clear t0 t1 t2 t3 t4 t5 t6 t7
            refine (twork_c T (.slice A2 T.js.length c2) _ hR.out.t.tr HJL.out).mono ?_
            rintro e w4 ⟨rfl, hb⟩
            rw [← HWK.out]
            have HR4 := Lib.hid (hR.out.below hb)
            have HB4 := Lib.hid (below_call (Below.refl wr.heap.size wr) (Nat.le_refl _) hb)
            clear hb
            obtain ⟨t0, t1, t2, t3, t4, t5, t6, t7⟩ := HR4.out.t.t8
            go_wp2_with fail
            clear t0 t1 t2 t3 t4 t5 t6 t7
            refine (trun_any T (.slice A2 T.js.length c2) q _ HR4.out.t.tr HJL.out).mono ?_
            rintro e w5 ⟨v5, he, hRv, hb⟩
            rw [HRUN.out] at he hRv
            dsimp only at he hRv
            rw [errV_0] at he
            subst he
            obtain ⟨A3, c3, rfl⟩ := Kd.R_slice hRv
            obtain ⟨b7, hb7⟩ : ∃ b, b = w5.heap.size := ⟨_, rfl⟩
            obtain ⟨W6, hW6⟩ : ∃ W, W = w5.alloc (.cells (Tk.cs T1 (.slice A3 T1.js.length c3)).1 26) := ⟨_, rfl⟩
            have HZ : Hid (RG wr bt T T1 (.slice A2 T.js.length c2) b7 (.slice A3 T1.js.length c3) W6) := by
              rw [hW6, hb7]
              exact Lib.hid (RG.alloc hR.out.t hRv HB4.out.size (below_call HB4.out (Nat.le_refl _) hb))
            have lb : b < w5.heap.size := Nat.lt_of_lt_of_le (World.block_lt_of_cell? wr _ j3) (Nat.le_trans HB4.out.size hb.size)
            have j3' : w5.cell? ⟨b, o + k * 4 + 3, none⟩ = some (.int .i64 x.f3) := keep hb (keep HB4.out j3)
            have HW6 := Lib.hid hW6
            have Hb7 := Lib.hid hb7
            clear hRv hb hW6 hb7 HB4 HR4
            go_wp2_with fail
            rw [← HW6.out, ← Hb7.out]
            clear HW6 Hb7 lb j3'
            refine (twork_c T1 (.slice A3 T1.js.length c3) _ (TR.of_R HZ.out.r) HJL1.out).mono ?_
            rintro e w7 ⟨rfl, hb⟩
            rw [HWORK.out]
            replace HZ := Lib.hid (HZ.out.below hb)
            clear hb
            obtain ⟨⟨t0, t1, t2, t3, t4, t5, t6, t7⟩, -⟩ := blk8 HZ.out.n
            go_wp2_with fail
            clear t0 t1 t2 t3 t4 t5 t6 t7
            refine (tvalid_e T1 (.slice A3 T1.js.length c3) _ (TR.of_R HZ.out.r) HJL1.out).mono ?_
            rintro e w8 ⟨rfl, hb⟩
            rw [HVAL.out, errV_0]
            replace HZ := Lib.hid (HZ.out.below hb)
            clear hb
            obtain ⟨⟨t0, t1, t2, t3, t4, t5, t6, t7⟩, -⟩ := blk8 HZ.out.n
            obtain ⟨⟨p0, p1, p2, p3, p4, p5, p6, p7⟩, m0, m1, m2, m3, m4, m5, m6, m7⟩ := blk8 HZ.out.o
            have HRE := Lib.hid (HZ.out.done HBT.out hR.out.be hR.out.t.lt)
            have hbd := tick_bd HT1.out HD.out.2.2.2.1 (by have := HD.out; omega)
            have hdk := HD.out
            have HBD := Lib.hid (show 0 ≤ (late + 1) ∧ (late + 1) ≤ 100 by omega)
            have HREL := Lib.hid (show ((m + 1 : Nat) : Int) ≤ N ∧ (0 ≤ q + 1 ∧ q + 1 ≤ 1100000) ∧ (1 ≤ kk + 1 ∧ kk + 1 ≤ 61) by
              have h1 := hK'.out; have h2 := hQ.out; have h3 := HF.out; have h4 := hNB; have h5 := HKN.out
              refine ⟨?_, ?_, ?_⟩ <;> omega)
            clear hbd hdk
            go_wp2
            go_roundw
            case rel => exact ⟨m + 1, q + 1, (late + 1), kk + 1, T1, _, HREL.out.1, by go_num, by go_num, by go_num, HREL.out.2.1, HBD.out, HREL.out.2.2, Lib.hid (by have := hK'.out; omega), HT1, HRE⟩
            case measure => simp [intOf]; omega
          · have hby : by_ = 0 := by rw [HBY.out]; exact if_neg (fun h => z4 h.2)
            rw [if_neg (by omega)] at HT1
            have k4 : decide (0 < by_) = false := decide_eq_false (by omega)
            have mx : max (0 : Int) (q + 1 - fr - x.f3) = by_ := by omega
            have hz : ¬ 0 < by_ := by omega
            clear HBY z3 z4 hby
            obtain ⟨t0, t1, t2, t3, t4, t5, t6, t7⟩ := hR.out.t.t8
            go_wp2_with fail
            clear t0 t1 t2 t3 t4 t5 t6 t7
            refine (twork_c T (.slice A2 T.js.length c2) _ hR.out.t.tr HJL.out).mono ?_
            rintro e w4 ⟨rfl, hb⟩
            rw [← HWK.out]
            have HR4 := Lib.hid (hR.out.below hb)
            have HB4 := Lib.hid (below_call (Below.refl wr.heap.size wr) (Nat.le_refl _) hb)
            clear hb
            obtain ⟨t0, t1, t2, t3, t4, t5, t6, t7⟩ := HR4.out.t.t8
            go_wp2_with fail
            clear t0 t1 t2 t3 t4 t5 t6 t7
            refine (trun_any T (.slice A2 T.js.length c2) q _ HR4.out.t.tr HJL.out).mono ?_
            rintro e w5 ⟨v5, he, hRv, hb⟩
            rw [HRUN.out] at he hRv
            dsimp only at he hRv
            rw [errV_0] at he
            subst he
            obtain ⟨A3, c3, rfl⟩ := Kd.R_slice hRv
            obtain ⟨b7, hb7⟩ : ∃ b, b = w5.heap.size := ⟨_, rfl⟩
            obtain ⟨W6, hW6⟩ : ∃ W, W = w5.alloc (.cells (Tk.cs T1 (.slice A3 T1.js.length c3)).1 26) := ⟨_, rfl⟩
            have HZ : Hid (RG wr bt T T1 (.slice A2 T.js.length c2) b7 (.slice A3 T1.js.length c3) W6) := by
              rw [hW6, hb7]
              exact Lib.hid (RG.alloc hR.out.t hRv HB4.out.size (below_call HB4.out (Nat.le_refl _) hb))
            have lb : b < w5.heap.size := Nat.lt_of_lt_of_le (World.block_lt_of_cell? wr _ j3) (Nat.le_trans HB4.out.size hb.size)
            have j3' : w5.cell? ⟨b, o + k * 4 + 3, none⟩ = some (.int .i64 x.f3) := keep hb (keep HB4.out j3)
            have HW6 := Lib.hid hW6
            have Hb7 := Lib.hid hb7
            clear hRv hb hW6 hb7 HB4 HR4
            go_wp2_with fail
            rw [← HW6.out, ← Hb7.out]
            clear HW6 Hb7 lb j3'
            refine (twork_c T1 (.slice A3 T1.js.length c3) _ (TR.of_R HZ.out.r) HJL1.out).mono ?_
            rintro e w7 ⟨rfl, hb⟩
            rw [HWORK.out]
            replace HZ := Lib.hid (HZ.out.below hb)
            clear hb
            obtain ⟨⟨t0, t1, t2, t3, t4, t5, t6, t7⟩, -⟩ := blk8 HZ.out.n
            go_wp2_with fail
            clear t0 t1 t2 t3 t4 t5 t6 t7
            refine (tvalid_e T1 (.slice A3 T1.js.length c3) _ (TR.of_R HZ.out.r) HJL1.out).mono ?_
            rintro e w8 ⟨rfl, hb⟩
            rw [HVAL.out, errV_0]
            replace HZ := Lib.hid (HZ.out.below hb)
            clear hb
            obtain ⟨⟨t0, t1, t2, t3, t4, t5, t6, t7⟩, -⟩ := blk8 HZ.out.n
            obtain ⟨⟨p0, p1, p2, p3, p4, p5, p6, p7⟩, m0, m1, m2, m3, m4, m5, m6, m7⟩ := blk8 HZ.out.o
            have HRE := Lib.hid (HZ.out.done HBT.out hR.out.be hR.out.t.lt)
            have hbd := tick_bd HT1.out HD.out.2.2.2.1 (by have := HD.out; omega)
            have hdk := HD.out
            have HBD := Lib.hid (show 0 ≤ late ∧ late ≤ 100 by omega)
            have HREL := Lib.hid (show ((m + 1 : Nat) : Int) ≤ N ∧ (0 ≤ q + 1 ∧ q + 1 ≤ 1100000) ∧ (1 ≤ kk + 1 ∧ kk + 1 ≤ 61) by
              have h1 := hK'.out; have h2 := hQ.out; have h3 := HF.out; have h4 := hNB; have h5 := HKN.out
              refine ⟨?_, ?_, ?_⟩ <;> omega)
            clear hbd hdk
            go_wp2
            go_roundw
            case rel => exact ⟨m + 1, q + 1, late, kk + 1, T1, _, HREL.out.1, by go_num, by go_num, by go_num, HREL.out.2.1, HBD.out, HREL.out.2.2, Lib.hid (by have := hK'.out; omega), HT1, HRE⟩
            case measure => simp [intOf]; omega
        · have k3 : decide (0 < x.f3) = false := decide_eq_false z3
          have hby : by_ = 0 := by rw [HBY.out]; exact if_neg (fun h => z3 h.1)
          subst hby
          rw [if_neg (by decide)] at HT1
          clear HBY z3
          obtain ⟨t0, t1, t2, t3, t4, t5, t6, t7⟩ := hR.out.t.t8
          go_wp2_with fail
          clear t0 t1 t2 t3 t4 t5 t6 t7
          refine (twork_c T (.slice A2 T.js.length c2) _ hR.out.t.tr HJL.out).mono ?_
          rintro e w4 ⟨rfl, hb⟩
          rw [← HWK.out]
          have HR4 := Lib.hid (hR.out.below hb)
          have HB4 := Lib.hid (below_call (Below.refl wr.heap.size wr) (Nat.le_refl _) hb)
          clear hb
          obtain ⟨t0, t1, t2, t3, t4, t5, t6, t7⟩ := HR4.out.t.t8
          go_wp2_with fail
          clear t0 t1 t2 t3 t4 t5 t6 t7
          refine (trun_any T (.slice A2 T.js.length c2) q _ HR4.out.t.tr HJL.out).mono ?_
          rintro e w5 ⟨v5, he, hRv, hb⟩
          rw [HRUN.out] at he hRv
          dsimp only at he hRv
          rw [errV_0] at he
          subst he
          obtain ⟨A3, c3, rfl⟩ := Kd.R_slice hRv
          obtain ⟨b7, hb7⟩ : ∃ b, b = w5.heap.size := ⟨_, rfl⟩
          obtain ⟨W6, hW6⟩ : ∃ W, W = w5.alloc (.cells (Tk.cs T1 (.slice A3 T1.js.length c3)).1 26) := ⟨_, rfl⟩
          have HZ : Hid (RG wr bt T T1 (.slice A2 T.js.length c2) b7 (.slice A3 T1.js.length c3) W6) := by
            rw [hW6, hb7]
            exact Lib.hid (RG.alloc hR.out.t hRv HB4.out.size (below_call HB4.out (Nat.le_refl _) hb))
          have lb : b < w5.heap.size := Nat.lt_of_lt_of_le (World.block_lt_of_cell? wr _ j3) (Nat.le_trans HB4.out.size hb.size)
          have j3' : w5.cell? ⟨b, o + k * 4 + 3, none⟩ = some (.int .i64 x.f3) := keep hb (keep HB4.out j3)
          have HW6 := Lib.hid hW6
          have Hb7 := Lib.hid hb7
          clear hRv hb hW6 hb7 HB4 HR4
          go_wp2_with fail
          rw [← HW6.out, ← Hb7.out]
          clear HW6 Hb7 lb j3'
          refine (twork_c T1 (.slice A3 T1.js.length c3) _ (TR.of_R HZ.out.r) HJL1.out).mono ?_
          rintro e w7 ⟨rfl, hb⟩
          rw [HWORK.out]
          replace HZ := Lib.hid (HZ.out.below hb)
          clear hb
          obtain ⟨⟨t0, t1, t2, t3, t4, t5, t6, t7⟩, -⟩ := blk8 HZ.out.n
          go_wp2_with fail
          clear t0 t1 t2 t3 t4 t5 t6 t7
          refine (tvalid_e T1 (.slice A3 T1.js.length c3) _ (TR.of_R HZ.out.r) HJL1.out).mono ?_
          rintro e w8 ⟨rfl, hb⟩
          rw [HVAL.out, errV_0]
          replace HZ := Lib.hid (HZ.out.below hb)
          clear hb
          obtain ⟨⟨t0, t1, t2, t3, t4, t5, t6, t7⟩, -⟩ := blk8 HZ.out.n
          obtain ⟨⟨p0, p1, p2, p3, p4, p5, p6, p7⟩, m0, m1, m2, m3, m4, m5, m6, m7⟩ := blk8 HZ.out.o
          have HRE := Lib.hid (HZ.out.done HBT.out hR.out.be hR.out.t.lt)
          have hbd := tick_bd HT1.out HD.out.2.2.2.1 (by have := HD.out; omega)
          have hdk := HD.out
          have HBD := Lib.hid (show 0 ≤ late ∧ late ≤ 100 by omega)
          have HREL := Lib.hid (show ((m + 1 : Nat) : Int) ≤ N ∧ (0 ≤ q + 1 ∧ q + 1 ≤ 1100000) ∧ (1 ≤ kk + 1 ∧ kk + 1 ≤ 61) by
            have h1 := hK'.out; have h2 := hQ.out; have h3 := HF.out; have h4 := hNB; have h5 := HKN.out
            refine ⟨?_, ?_, ?_⟩ <;> omega)
          clear hbd hdk
          go_wp2
          go_roundw
          case rel => exact ⟨m + 1, q + 1, late, kk + 1, T1, _, HREL.out.1, by go_num, by go_num, by go_num, HREL.out.2.1, HBD.out, HREL.out.2.2, Lib.hid (by have := hK'.out; omega), HT1, HRE⟩
          case measure => simp [intOf]; omega
    · have hmN : (m : Int) = N := by have := hK'.out; omega
      have HMN := Lib.hid hmN
      clear hmN
      go_wp2_with fail
      exact hK.out m q late T v wr _ _ _ _ _ _ _ _ _ _ _ _ _ _ _ _ _ _ _ _ _ _ _ _ _ _ _ _ _ _ _ _ _ _ _ _ _ _ _ _ _ _ _ _ _ _ _ _ _ _ _ _ _ _ _ _ _ _ _ _ _ _ _ _ _ _ _ _ _ _ _ _ _ _ _ _ _ _ _ _ _ _ _ _ _ _ _ _ HMN.out hK'.out.1 hTI.out hR.out

end Go.Proofs.YtkfjlkpickeobaaDoor
