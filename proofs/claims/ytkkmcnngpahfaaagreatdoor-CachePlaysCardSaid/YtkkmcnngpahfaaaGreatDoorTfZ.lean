/- Frames: how a pool lies in memory; what stays as it was. Frames: bits in words of 64 bits. No program. Frames: the small functions of a pool. Frames: Down, Count, Free, Size, by their contracts. Frames: Load and Store; a row copied into another one. Frames: math/bits.TrailingZeros64 by its own text, over its table as it is laid (after the guide's shelf text on it). Frames: Take. Frames: New. -/
import Derived.Test.YtkkmcnngpahfaaaGreatDoorRows
import Derived.Test.YtkkmcnngpahfaaaGreatDoorTbA
import Derived.WalkKit
import Derived.WalkSpells
import Derived.WalkLawsBesides
import Derived.Lib.Hide
import Derived.Lib.SmallJoins
import Derived.Lib.TrailingZeros
import Derived.Laws.Bits64b
import Derived.Laws.BitsAllLaws
import Derived.RegionTactic
import Derived.BigRegion
import Derived.Deep.Cut
import Derived.Deep.CutBlock
import Derived.Deep.CutRange
import Derived.Outline
import Derived.Laws.CopyOwn
import Derived.Deep.MidRow
import Derived.Laws.MakeOwn
import Derived.LoopTactic
import Derived.Deep.DeepCutAuto

namespace Go.Proofs.YtkkmcnngpahfaaaGreatDoor
open Go.RowKit
set_option linter.unusedSimpArgs false
set_option linter.unusedVariables false

/-! ### rows of cells -/
def rowV (n : Nat) (g : Nat → Value) : Array Value := ((List.range n).map g).toArray
theorem rowV_size (n : Nat) (g : Nat → Value) : (rowV n g).size = n := by simp [rowV]
theorem rowV_at {n : Nat} {g : Nat → Value} {i : Nat} (h : i < n) : (rowV n g)[i]? = some (g i) := by simp [rowV, h]
theorem rowV_set {n : Nat} {g : Nat → Value} {i : Nat} (v : Value) : (rowV n g).setIfInBounds i v = rowV n (upd g i v) := by
  apply Array.ext_getElem?
  intro j
  rw [Array.getElem?_setIfInBounds]
  by_cases h : j < n
  · rw [rowV_at h]
    by_cases e : i = j
    · subst e
      rw [if_pos rfl, rowV_size, if_pos h, rowV_at h, upd_same]
    · rw [if_neg e, rowV_at h, upd_ne _ _ (fun e' => e e'.symm)]
  · rw [Array.getElem?_eq_none (by rw [rowV_size]; omega), rowV_size, Array.getElem?_eq_none (by rw [rowV_size]; omega)]
    split <;> first | rfl | (split <;> first | rfl | omega)
theorem rowV_congr {n : Nat} {g h : Nat → Value} (e : ∀ i, i < n → g i = h i) : rowV n g = rowV n h := by
  apply Array.ext_getElem?
  intro j
  by_cases hj : j < n
  · rw [rowV_at hj, rowV_at hj, e j hj]
  · rw [Array.getElem?_eq_none (by rw [rowV_size]; omega), Array.getElem?_eq_none (by rw [rowV_size]; omega)]

theorem heap_alloc_new (w : World) (o : Obj) : (w.alloc o).heap[w.heap.size]? = some o := by
  show (w.heap.push o)[w.heap.size]? = some o
  simp

/-! ### what may be turned -/
/-- From w to w' nothing turned but blocks of S and new ones. -/
structure Mod (S : Nat → Prop) (w w' : World) : Prop where
  os : w'.os = w.os
  tape : w'.tape = w.tape
  output : w'.output = w.output
  size : w.heap.size ≤ w'.heap.size
  block : ∀ b, b < w.heap.size → ¬ S b → w'.heap[b]? = w.heap[b]?
theorem Mod.refl (S : Nat → Prop) (w : World) : Mod S w w := ⟨rfl, rfl, rfl, Nat.le_refl _, fun _ _ _ => rfl⟩
theorem Mod.of {S : Nat → Prop} {w w' : World} (h : Below w.heap.size w w') : Mod S w w' := ⟨h.os, h.tape, h.output, h.size, fun b hb _ => h.block b hb⟩
theorem Mod.below {S : Nat → Prop} {w w' : World} {B : Nat} (h : Mod S w w') (hS : ∀ b, S b → B ≤ b) (hB : B ≤ w.heap.size) : Below B w w' := ⟨h.os, h.tape, h.output, h.size, fun b hb => h.block b (by omega) (fun e => by have := hS b e; omega)⟩
/-- S' is S and new blocks. -/
def Out (S S' : Nat → Prop) (w : World) : Prop := ∀ b, S' b → S b ∨ w.heap.size ≤ b
theorem Out.refl (S : Nat → Prop) (w : World) : Out S S w := fun _ h => .inl h
theorem Mod.trans {S S' : Nat → Prop} {w w' w'' : World} (h : Mod S w w') (ho : Out S S' w) (k : Mod S' w' w'') : Mod S w w'' :=
  ⟨k.os.trans h.os, k.tape.trans h.tape, k.output.trans h.output, Nat.le_trans h.size k.size, fun b hb hs => (k.block b (Nat.lt_of_lt_of_le hb h.size) (fun e => by
    rcases ho b e with h1 | h1
    · exact hs h1
    · omega)).trans (h.block b hb hs)⟩
theorem Out.trans {S S' S'' : Nat → Prop} {w w' : World} (h : Out S S' w) (k : Out S' S'' w') (hz : w.heap.size ≤ w'.heap.size) : Out S S'' w := fun b hb => by
  rcases k b hb with h1 | h1
  · exact h b h1
  · right; omega
theorem Mod.sub {S T : Nat → Prop} {w w' : World} (h : Mod S w w') (hs : ∀ b, S b → T b) : Mod T w w' := ⟨h.os, h.tape, h.output, h.size, fun b hb ht => h.block b hb (fun e => ht (hs b e))⟩

/-! ### a pool in memory -/
structure PoolIs (w : World) (a C B F : Nat) (wd : Nat → Nat) (pt : Nat → Option Nat) (p : Pool) : Prop where
  self : w.heap[a]? = some (.cells #[.slice (some ⟨C, 0, none⟩) p.n p.n, .slice (some ⟨B, 0, none⟩) p.n p.n, .slice (some ⟨F, 0, none⟩) ((p.n + 63) / 64) ((p.n + 63) / 64), .int .i64 (p.left : Int)] 123 (0, 0))
  counts : w.heap[C]? = some (.cells (rowV p.n fun f => .int .i64 (p.cnt f : Int)) 3 (0, 0))
  ptrs : w.heap[B]? = some (.cells (rowV p.n fun f => .pointer ((pt f).map fun b => ⟨b, 0, none⟩)) 125 (0, 0))
  free : w.heap[F]? = some (.cells (rowV ((p.n + 63) / 64) fun i => .int .u64 (wd i : Int)) 36 (0, 0))
  wds : ∀ i, i < (p.n + 63) / 64 → wd i < 18446744073709551616 ∧ ∀ j, j < 64 → (wd i).testBit j = decide (64 * i + j < p.n ∧ p.cnt (64 * i + j) = 0)
  bytes : ∀ f, f < p.n → 0 < p.cnt f → ∃ b, pt f = some b ∧ w.heap[b]? = some (.cells (rowV 4096 fun i => .int .u8 (p.dat f i : Int)) 127 (0, 0)) ∧ b ≠ a ∧ b ≠ C ∧ b ≠ B ∧ b ≠ F
  sole : ∀ f g b, f < p.n → g < p.n → 0 < p.cnt f → 0 < p.cnt g → pt f = some b → pt g = some b → f = g
  apart : a ≠ C ∧ a ≠ B ∧ a ≠ F ∧ C ≠ B ∧ C ≠ F ∧ B ≠ F
  small : ∀ f i, p.dat f i < 256
  few : 1 ≤ p.n ∧ p.n ≤ 1024
  cap : ∀ f, p.cnt f < 1000000000000

/-- The table of math/bits lies where start-up laid it. -/
def DB (w : World) : Prop := ∀ j, j < Lib.deBruijn64tab.length → w.cell? ⟨0, j, none⟩ = some (.int .u8 (Lib.deBruijn64tab.getD j 0))
theorem DB.same {w w' : World} (h : DB w) (hb : w'.heap[0]? = w.heap[0]?) : DB w' := fun j hj => by
  rw [← h j hj]
  exact World.cell?_of_block (w := w) hb

/-- The pool's blocks lie in S. -/
def PoolIn (w : World) (S : Nat → Prop) (a : Nat) (p : Pool) : Prop := ∃ C B F wd pt, PoolIs w a C B F wd pt p ∧ S a ∧ S C ∧ S B ∧ S F ∧ ∀ f b, f < p.n → 0 < p.cnt f → pt f = some b → S b

/-- A pool lies at block a; all that it is made of lies in S; the table of math/bits lies apart. -/
structure PoolAt (w : World) (S : Nat → Prop) (a : Nat) (p : Pool) : Prop where
  is : PoolIn w S a p
  low : ∀ b, S b → b < w.heap.size
  tab : DB w
  no0 : ¬ S 0

theorem PoolIs.same {w w' : World} {a C B F : Nat} {wd : Nat → Nat} {pt : Nat → Option Nat} {p : Pool} (h : PoolIs w a C B F wd pt p) (S : Nat → Prop) (hS : S a ∧ S C ∧ S B ∧ S F ∧ ∀ f b, f < p.n → 0 < p.cnt f → pt f = some b → S b)
    (hb : ∀ b, S b → w'.heap[b]? = w.heap[b]?) : PoolIs w' a C B F wd pt p :=
  ⟨(hb a hS.1).trans h.self, (hb C hS.2.1).trans h.counts, (hb B hS.2.2.1).trans h.ptrs, (hb F hS.2.2.2.1).trans h.free, h.wds, fun f hf hc => by
    obtain ⟨b, e, h1, h2⟩ := h.bytes f hf hc
    exact ⟨b, e, (hb b (hS.2.2.2.2 f b hf hc e)).trans h1, h2⟩, h.sole, h.apart, h.small, h.few, h.cap⟩
theorem PoolAt.same {w w' : World} {S : Nat → Prop} {a : Nat} {p : Pool} (h : PoolAt w S a p) (hz : w.heap.size ≤ w'.heap.size) (hb : ∀ b, S b → w'.heap[b]? = w.heap[b]?) (h0 : w'.heap[0]? = w.heap[0]?) : PoolAt w' S a p := by
  obtain ⟨⟨C, B, F, wd, pt, h1, hS⟩, h2, h3, h4⟩ := h
  exact ⟨⟨C, B, F, wd, pt, h1.same S hS hb, hS⟩, fun b hb => Nat.lt_of_lt_of_le (h2 b hb) hz, h3.same h0, h4⟩
theorem PoolAt.pos {w : World} {S : Nat → Prop} {a : Nat} {p : Pool} (h : PoolAt w S a p) : 0 < w.heap.size := by
  obtain ⟨C, B, F, wd, pt, _, ha, _⟩ := h.is
  have := h.low a ha
  omega
/-- New memory alone turns no pool. -/
theorem PoolAt.below {w w' : World} {S : Nat → Prop} {a : Nat} {p : Pool} (h : PoolAt w S a p) (hb : Below w.heap.size w w') : PoolAt w' S a p :=
  h.same hb.size (fun b hs => hb.block b (h.low b hs)) (hb.block 0 h.pos)
/-- What is done to blocks that are not the pool's turns no pool. -/
theorem PoolAt.mod {w w' : World} {S T : Nat → Prop} {a : Nat} {p : Pool} (h : PoolAt w S a p) (hm : Mod T w w') (hST : ∀ b, S b → ¬ T b) (hT : ¬ T 0) : PoolAt w' S a p :=
  h.same hm.size (fun b hs => hm.block b (h.low b hs) (hST b hs)) (hm.block 0 h.pos hT)
/-- The pool's own blocks are turned. -/
theorem PoolAt.turn {w w' : World} {S S' : Nat → Prop} {a : Nat} {p p' : Pool} (h : PoolAt w S a p) (hm : Mod S w w') (hi : PoolIn w' S' a p') (ho : Out S S' w) (hl : ∀ b, S' b → b < w'.heap.size) : PoolAt w' S' a p' :=
  ⟨hi, hl, h.tab.same (hm.block 0 h.pos h.no0), fun e => by
    rcases ho 0 e with h1 | h1
    · exact h.no0 h1
    · have := h.pos; omega⟩
theorem PoolAt.stay {w w' : World} {S : Nat → Prop} {a : Nat} {p p' : Pool} (h : PoolAt w S a p) (hm : Mod S w w') (hi : PoolIn w' S a p') : PoolAt w' S a p' :=
  h.turn hm hi (Out.refl _ _) fun b hb => Nat.lt_of_lt_of_le (h.low b hb) hm.size

end Go.Proofs.YtkkmcnngpahfaaaGreatDoor

namespace Go.Proofs.YtkkmcnngpahfaaaGreatDoor
set_option linter.unusedSimpArgs false
set_option linter.unusedVariables false

theorem pow_lt64 {j : Nat} (hj : j < 64) : 2 ^ j < 18446744073709551616 := by
  have : 2 ^ j < 2 ^ 64 := Nat.pow_lt_pow_right (by decide) hj
  exact this
theorem wrap_pow {j : Nat} (hj : j < 64) : IntKind.u64.wrap ((2 : Int) ^ j) = ((2 ^ j : Nat) : Int) := by
  rw [IntKind.wrap_u64]
  have h := pow_lt64 hj
  have e : ((2 : Int) ^ j) = ((2 ^ j : Nat) : Int) := by simp
  rw [e]
  clear e
  generalize 2 ^ j = m at h ⊢
  omega
theorem or_bit {x j : Nat} (hx : x < 18446744073709551616) (hj : j < 64) : bits .or .u64 (x : Int) (IntKind.u64.wrap ((2 : Int) ^ j)) = ((x ||| 2 ^ j : Nat) : Int) := by
  rw [wrap_pow hj, bits_or_u64_nat x (2 ^ j) hx (pow_lt64 hj)]
theorem or_lt {x j : Nat} (hx : x < 18446744073709551616) (hj : j < 64) : x ||| 2 ^ j < 18446744073709551616 := by
  have : x ||| 2 ^ j < 2 ^ 64 := Nat.or_lt_two_pow hx (pow_lt64 hj)
  exact this
theorem or_test (x j i : Nat) : (x ||| 2 ^ j).testBit i = (x.testBit i || decide (j = i)) := by
  rw [Nat.testBit_or, Nat.testBit_two_pow]
theorem clr_bit {x j : Nat} (hx : x < 18446744073709551616) (hj : j < 64) : bits .andNot .u64 (x : Int) (IntKind.u64.wrap ((2 : Int) ^ j)) = ((x &&& (18446744073709551615 - 2 ^ j) : Nat) : Int) := by
  rw [wrap_pow hj, u64_andNot_nat x (2 ^ j) hx (pow_lt64 hj)]
theorem clr_lt {x j : Nat} (hx : x < 18446744073709551616) : x &&& (18446744073709551615 - 2 ^ j) < 18446744073709551616 := Nat.lt_of_le_of_lt Nat.and_le_left hx
theorem clr_test {x j i : Nat} (hj : j < 64) (hi : i < 64) : (x &&& (18446744073709551615 - 2 ^ j)).testBit i = (x.testBit i && !decide (j = i)) := by
  rw [Nat.testBit_and]
  congr 1
  have h := Nat.testBit_two_pow_sub_succ (x := 2 ^ j) (n := 64) (pow_lt64 hj) i
  rw [show (2 : Nat) ^ 64 - (2 ^ j + 1) = 18446744073709551615 - 2 ^ j from by
    have := pow_lt64 hj
    have e : (2 : Nat) ^ 64 = 18446744073709551616 := by decide
    rw [e]
    omega] at h
  rw [h, Nat.testBit_two_pow]
  simp [hi]
theorem or_shift {x b k : Nat} (hx : x < 256 ^ k) (hb : b < 256) (hk : k < 8) : bits .or .u64 (x : Int) (IntKind.u64.wrap ((b : Int) * (2 : Int) ^ (8 * k))) = ((x + b * 256 ^ k : Nat) : Int) := by
  have e : (2 : Nat) ^ (8 * k) = 256 ^ k := by rw [Nat.pow_mul]
  have e2 : ((2 : Int) ^ (8 * k)) = ((256 ^ k : Nat) : Int) := by
    rw [← e]; simp
  have h256 : (256 : Nat) ^ k * 256 ≤ 18446744073709551616 := by
    have : (256 : Nat) ^ (k + 1) ≤ 256 ^ 8 := Nat.pow_le_pow_right (by decide) (by omega)
    rw [Nat.pow_succ] at this
    have e3 : (256 : Nat) ^ 8 = 18446744073709551616 := by decide
    omega
  have hb2 : b * 256 ^ k ≤ 255 * 256 ^ k := Nat.mul_le_mul_right _ (by omega)
  have hpos : 0 < 256 ^ k := Nat.pow_pos (by decide)
  rw [e2, show ((b : Int) * ((256 ^ k : Nat) : Int)) = ((b * 256 ^ k : Nat) : Int) from by simp]
  have hor : x ||| b * 256 ^ k = x + b * 256 ^ k := by
    rw [← e] at hx ⊢
    rw [Nat.or_comm, Nat.mul_comm b, ← Nat.two_pow_add_eq_or_of_lt hx, Nat.add_comm]
  generalize hm : b * 256 ^ k = m at *
  generalize 256 ^ k = q at *
  have hw : IntKind.u64.wrap (m : Int) = (m : Int) := by rw [IntKind.wrap_u64]; omega
  rw [hw, bits_or_u64_nat x m (by omega) (by omega), hor]
end Go.Proofs.YtkkmcnngpahfaaaGreatDoor

namespace Go.Proofs.YtkkmcnngpahfaaaGreatDoor
open Go.RowKit
set_option linter.unusedSimpArgs false
set_option linter.unusedVariables false

def takenB (p : Pool) (f : Int) : Bool := decide (0 ≤ f ∧ f < p.n ∧ 0 < p.cnt f.toNat)
theorem takenB_yes {p : Pool} {f : Int} (h : takenB p f = true) : ∃ g : Nat, f = g ∧ g < p.n ∧ 0 < p.cnt g := by
  unfold takenB at h
  obtain ⟨h1, h2, h3⟩ := of_decide_eq_true h
  exact ⟨f.toNat, by omega, by omega, h3⟩
theorem takenB_nat {p : Pool} {g : Nat} : takenB p (g : Int) = decide (g < p.n ∧ 0 < p.cnt g) := by
  unfold takenB
  rw [Bool.eq_iff_iff]
  simp

theorem ret_bool {a b : Bool} (h : a = b) : Ending.returned (.bool a) = .returned (.bool b) := by rw [h]
theorem one_block {w : World} {b : Nat} {cs : Array Value} {T : TypeId} {fr : Nat × Nat} (h : w.heap[b]? = some (.cells cs T fr)) (i : Nat) : w.cell? ⟨b, i, none⟩ = cs[i]? := by simp [World.cell?, h]
theorem one_free {w : World} {b : Nat} {cs : Array Value} {T : TypeId} (h : w.heap[b]? = some (.cells cs T (0, 0))) (i : Nat) : w.frozen? ⟨b, i, none⟩ = false := by simp [World.frozen?, h]
theorem row_cell {w : World} {b n : Nat} {g : Nat → Value} {T : TypeId} {fr : Nat × Nat} (h : w.heap[b]? = some (.cells (rowV n g) T fr)) {i : Nat} (hi : i < n) : w.cell? ⟨b, i, none⟩ = some (g i) := by
  rw [one_block h, rowV_at hi]

set_option maxHeartbeats 400000 in
theorem taken_any (a : Nat) (f : Int) (w : World) (S : Nat → Prop) (p : Pool) (h : PoolAt w S a p) :
    Calls Tryz.prog 83 #[.pointer (some ⟨a, 0, none⟩), .int .i64 f] w fun e w' => e = .returned (.bool (takenB p f)) ∧ w = w' := by
  obtain ⟨⟨C, B, F, wd, pt, hi, _⟩, _, _, _⟩ := h
  have h0 : w.cell? ⟨a, 0, none⟩ = some (.slice (some ⟨C, 0, none⟩) p.n p.n) := one_block hi.self 0
  have hC := hi.counts
  have hn := hi.few.2
  clear hi
  by_cases h1 : 0 ≤ f
  · obtain ⟨g, rfl⟩ := Int.eq_ofNat_of_zero_le h1
    by_cases h2 : g < p.n
    · have hc := row_cell hC h2
      clear hC
      go_enter Tryz.func83, Tryz.ntmps83
      go_wp2
      go_ret
      exact ⟨ret_bool (by rw [takenB_nat]; simp [h2]), rfl⟩
    · clear hC
      go_enter Tryz.func83, Tryz.ntmps83
      go_wp2
      go_ret
      exact ⟨ret_bool (by rw [takenB_nat]; simp [h2]), rfl⟩
  · clear hC
    go_enter Tryz.func83, Tryz.ntmps83
    go_wp2
    go_ret
    exact ⟨ret_bool ((decide_eq_false (fun e => by omega)).symm), rfl⟩

/-- A count turns from one above 0 to one above 0. -/
theorem PoolIs.setCnt {w : World} {a C B F : Nat} {wd : Nat → Nat} {pt : Nat → Option Nat} {p : Pool} (h : PoolIs w a C B F wd pt p) {g x : Nat} (hg : g < p.n) (h0 : 0 < p.cnt g) (hx : 0 < x) (hx2 : x < 1000000000000) :
    PoolIs (w.setCell ⟨C, g, none⟩ (.int .i64 (x : Int))) a C B F wd pt ⟨p.n, upd p.cnt g x, p.dat⟩ := by
  obtain ⟨n1, n2, n3, n4, n5, n6⟩ := h.apart
  have hz : ∀ f, upd p.cnt g x f = 0 ↔ p.cnt f = 0 := fun f => by
    by_cases e : f = g
    · subst e; rw [upd_same]; omega
    · rw [upd_ne _ _ e]
  have hl : Pool.left ⟨p.n, upd p.cnt g x, p.dat⟩ = p.left := freeTo_congr fun i _ => hz i
  refine ⟨?_, ?_, ?_, ?_, fun i hi => ⟨(h.wds i hi).1, fun j hj => ?_⟩, fun f hf hc => ?_, fun f k b hf hk hc hd => ?_, h.apart, h.small, h.few, fun f => ?_⟩
  · rw [hl]
    exact (Below.heap_setCell _ _ _ _ n1).trans h.self
  · rw [Joins.block_setCell h.counts, rowV_set]
    congr 2
    refine rowV_congr fun i _ => ?_
    by_cases e : i = g
    · subst e; rw [upd_same]; simp only [upd_same]
    · rw [upd_ne _ _ e]; simp only [upd_ne _ _ e]
  · exact (Below.heap_setCell _ _ _ _ n4.symm).trans h.ptrs
  · exact (Below.heap_setCell _ _ _ _ n5.symm).trans h.free
  · rw [(h.wds i hi).2 j hj]
    simp only [hz]
  · obtain ⟨b, e, h1, h2⟩ := h.bytes f hf (by have := hz f; simp only at hc; omega)
    exact ⟨b, e, (Below.heap_setCell _ _ _ _ h2.2.1).trans h1, h2⟩
  · exact h.sole f k b hf hk (by have := hz f; simp only at hc; omega) (by have := hz k; simp only at hd; omega)
  · by_cases e : f = g
    · subst e; simp only [upd_same]; exact hx2
    · simp only [upd_ne _ _ e]; exact h.cap f

theorem Mod.drew {S : Nat → Prop} {w w' : World} (h : Mod S w w') : Mod S w w'.drew := ⟨h.os, h.tape, h.output, h.size, h.block⟩
theorem mod_set {S : Nat → Prop} {w : World} {b : Nat} (hb : S b) (o : Nat) (v : Value) : Mod S w (w.setCell ⟨b, o, none⟩ v) :=
  ⟨rfl, rfl, rfl, by simp [World.setCell], fun k _ hk => Below.heap_setCell _ _ _ _ (fun e => hk (by rw [e]; exact hb))⟩

set_option maxHeartbeats 400000 in
theorem up_yes (a g : Nat) (w : World) (S : Nat → Prop) (p : Pool) (h : PoolAt w S a p) (ht : takenB p (g : Int) = true) (hcap : p.cnt g + 1 < 1000000000000) :
    Calls Tryz.prog 64 #[.pointer (some ⟨a, 0, none⟩), .int .i64 g] w fun e w' => e = .returned (.int .i64 0) ∧ PoolAt w' S a (p.up g) ∧ Mod S w w' := by
  have hT := fun W => taken_any a (g : Int) W S p
  rw [ht] at hT
  have HT := Lib.hid hT
  have HP := Lib.hid h
  obtain ⟨⟨C, B, F, wd, pt, hi, hS⟩, hlow, _, _⟩ := h
  have h0 : w.cell? ⟨a, 0, none⟩ = some (.slice (some ⟨C, 0, none⟩) p.n p.n) := one_block hi.self 0
  have hg : g < p.n ∧ 0 < p.cnt g := by rw [takenB_nat] at ht; exact of_decide_eq_true ht
  obtain ⟨hg, hpos⟩ := hg
  have hc := row_cell hi.counts hg
  have hf := one_free hi.counts g
  have hn := hi.few.2
  have hcap' : p.cnt g < 1000000000000 := by omega
  have HI := Lib.hid hi
  clear hi hT ht hlow
  go_enter Tryz.func64, Tryz.ntmps64
  go_wp2_with (go_at_call 83; refine (HT.out _ HP.out).mono ?_; rintro e w1 ⟨rfl, rfl⟩)
  go_ret
  refine ⟨rfl, HP.out.stay (mod_set hS.2.1 _ _) ⟨C, B, F, wd, pt, HI.out.setCnt hg hpos (by omega) (by omega), hS.1, hS.2.1, hS.2.2.1, hS.2.2.2.1, fun f b hf hc he => hS.2.2.2.2 f b hf ?_ he⟩, mod_set hS.2.1 _ _⟩
  by_cases e : f = g
  · subst e; exact hpos
  · simp only [Pool.up, upd_ne _ _ e] at hc; exact hc

set_option maxHeartbeats 400000 in
theorem up_no (a : Nat) (f : Int) (w : World) (S : Nat → Prop) (p : Pool) (h : PoolAt w S a p) (ht : takenB p f = false) :
    Calls Tryz.prog 64 #[.pointer (some ⟨a, 0, none⟩), .int .i64 f] w fun e w' => e = .returned (.int .i64 1) ∧ w = w' := by
  have hT := fun W => taken_any a f W S p
  rw [ht] at hT
  have HT := Lib.hid hT
  clear hT ht
  go_enter Tryz.func64, Tryz.ntmps64
  go_wp2_with (go_at_call 83; refine (HT.out _ h).mono ?_; rintro e w1 ⟨rfl, rfl⟩)
  go_ret
  exact ⟨rfl, rfl⟩

theorem up_nil (f : Int) (w : World) : Calls Tryz.prog 64 #[.pointer none, .int .i64 f] w fun e w' => e = .returned (.int .i64 2) ∧ w = w' := by
  go_enter Tryz.func64, Tryz.ntmps64
  go_wp2
  go_ret
  exact ⟨rfl, rfl⟩

set_option maxHeartbeats 400000 in
theorem down_more (a g : Nat) (w : World) (S : Nat → Prop) (p : Pool) (h : PoolAt w S a p) (hg : g < p.n) (h2 : 2 ≤ p.cnt g) :
    Calls Tryz.prog 38 #[.pointer (some ⟨a, 0, none⟩), .int .i64 g] w fun e w' => e = .returned (.int .i64 0) ∧ PoolAt w' S a (p.down g) ∧ Mod S w w' := by
  have ht : takenB p (g : Int) = true := by rw [takenB_nat]; exact decide_eq_true ⟨hg, by omega⟩
  have hT := fun W => taken_any a (g : Int) W S p
  rw [ht] at hT
  have HT := Lib.hid hT
  have HP := Lib.hid h
  obtain ⟨⟨C, B, F, wd, pt, hi, hS⟩, hlow, _, _⟩ := h
  have h0 : w.cell? ⟨a, 0, none⟩ = some (.slice (some ⟨C, 0, none⟩) p.n p.n) := one_block hi.self 0
  have hc := row_cell hi.counts hg
  have hf := one_free hi.counts g
  have hn := hi.few.2
  have hcap := hi.cap g
  have haC := hi.apart.1
  have hd : ((p.cnt g : Int) - 1 == 0) = false := by rw [beq_eq_false_iff_ne]; omega
  have HI := Lib.hid hi
  clear hi hT ht hlow
  go_enter Tryz.func38, Tryz.ntmps38
  go_wp2_with (go_at_call 83; refine (HT.out _ HP.out).mono ?_; rintro e w1 ⟨rfl, rfl⟩)
  go_ret
  rw [show ((p.cnt g : Int) - 1) = ((p.cnt g - 1 : Nat) : Int) from by omega]
  refine ⟨rfl, HP.out.stay (mod_set hS.2.1 _ _) ⟨C, B, F, wd, pt, HI.out.setCnt hg (by omega) (by omega) (by omega), hS.1, hS.2.1, hS.2.2.1, hS.2.2.2.1, fun f b hf hc he => hS.2.2.2.2 f b hf ?_ he⟩, mod_set hS.2.1 _ _⟩
  by_cases e : f = g
  · subst e; omega
  · simp only [Pool.down, upd_ne _ _ e] at hc; exact hc

/-- The count of a frame and its bit turn together. -/
theorem PoolIs.turn {w W : World} {a C B F : Nat} {wd : Nat → Nat} {pt : Nat → Option Nat} {p : Pool} (h : PoolIs w a C B F wd pt p) {g x y L : Nat} (hg : g < p.n) (hx : x < 1000000000000)
    (hy : y < 18446744073709551616) (hyb : ∀ j, j < 64 → y.testBit j = if j = g % 64 then decide (x = 0) else (wd (g / 64)).testBit j) (hL : L = freeTo (upd p.cnt g x) p.n)
    (hW : W.heap = (((w.setCell ⟨C, g, none⟩ (.int .i64 (x : Int))).setCell ⟨F, g / 64, none⟩ (.int .u64 (y : Int))).setCell ⟨a, 3, none⟩ (.int .i64 (L : Int))).heap) (hb : p.cnt g = 0 → x = 0) :
    PoolIs W a C B F (upd wd (g / 64) y) pt ⟨p.n, upd p.cnt g x, p.dat⟩ := by
  obtain ⟨n1, n2, n3, n4, n5, n6⟩ := h.apart
  have far : ∀ b, b ≠ C → b ≠ F → b ≠ a → W.heap[b]? = w.heap[b]? := fun b h1 h2 h3 => by
    rw [hW]
    exact (Below.heap_setCell _ _ _ _ h3).trans ((Below.heap_setCell _ _ _ _ h2).trans (Below.heap_setCell _ _ _ _ h1))
  refine ⟨?_, ?_, ?_, ?_, fun i hi => ?_, fun f hf hc => ?_, fun f k b hf hk hc hd => ?_, h.apart, h.small, h.few, fun f => ?_⟩
  · rw [hW, Joins.block_setCell ((Below.heap_setCell _ _ _ _ n3).trans ((Below.heap_setCell _ _ _ _ n1).trans h.self))]
    show _ = some (Obj.cells #[_, _, _, Value.int .i64 ((freeTo (upd p.cnt g x) p.n : Nat) : Int)] _ _)
    rw [← hL]
    rfl
  · rw [hW, (Below.heap_setCell _ _ _ _ n1.symm), (Below.heap_setCell _ _ _ _ n5), Joins.block_setCell h.counts, rowV_set]
    congr 2
    refine rowV_congr fun i _ => ?_
    by_cases e : i = g
    · subst e; rw [upd_same]; simp only [upd_same]
    · rw [upd_ne _ _ e]; simp only [upd_ne _ _ e]
  · exact (far B n4.symm n6 n2.symm).trans h.ptrs
  · rw [hW, (Below.heap_setCell _ _ _ _ n3.symm), Joins.block_setCell ((Below.heap_setCell _ _ _ _ n5.symm).trans h.free), rowV_set]
    congr 2
    refine rowV_congr fun i _ => ?_
    by_cases e : i = g / 64
    · subst e; rw [upd_same]; simp only [upd_same]
    · rw [upd_ne _ _ e]; simp only [upd_ne _ _ e]
  · simp only at hi
    by_cases e : i = g / 64
    · subst e
      rw [upd_same]
      refine ⟨hy, fun j hj => ?_⟩
      rw [hyb j hj]
      by_cases e2 : j = g % 64
      · subst e2
        rw [if_pos rfl, show 64 * (g / 64) + g % 64 = g from by omega]
        simp only [upd_same]
        simp [hg]
      · rw [if_neg e2, (h.wds _ hi).2 j hj]
        simp only [upd_ne p.cnt x (show 64 * (g / 64) + j ≠ g from by omega)]
    · rw [upd_ne _ _ e]
      refine ⟨(h.wds i hi).1, fun j hj => ?_⟩
      rw [(h.wds i hi).2 j hj]
      simp only [upd_ne p.cnt x (show 64 * i + j ≠ g from by omega)]
  · simp only at hf hc
    have hc' : 0 < p.cnt f := by
      by_cases e : f = g
      · subst e; rw [upd_same] at hc; rcases Nat.eq_zero_or_pos (p.cnt f) with h0 | h0
        · have := hb h0; omega
        · exact h0
      · rw [upd_ne _ _ e] at hc; exact hc
    obtain ⟨b, e, h1, h2⟩ := h.bytes f hf hc'
    exact ⟨b, e, (far b h2.2.1 h2.2.2.2 h2.1).trans h1, h2⟩
  · have key : ∀ f, 0 < upd p.cnt g x f → 0 < p.cnt f := fun f hc => by
      by_cases e : f = g
      · subst e; rw [upd_same] at hc; rcases Nat.eq_zero_or_pos (p.cnt f) with h0 | h0
        · have := hb h0; omega
        · exact h0
      · rw [upd_ne _ _ e] at hc; exact hc
    exact h.sole f k b hf hk (key f hc) (key k hd)
  · by_cases e : f = g
    · subst e; simp only [upd_same]; exact hx
    · simp only [upd_ne _ _ e]; exact h.cap f
theorem PoolIs.last {w W : World} {a C B F : Nat} {wd : Nat → Nat} {pt : Nat → Option Nat} {p : Pool} (h : PoolIs w a C B F wd pt p) {g : Nat} (hg : g < p.n) (h1 : p.cnt g = 1)
    (hW : W.heap = (((w.setCell ⟨C, g, none⟩ (.int .i64 0)).setCell ⟨F, g / 64, none⟩ (.int .u64 (bits .or .u64 (wd (g / 64) : Int) (IntKind.u64.wrap (2 ^ (g % 64)))))).setCell ⟨a, 3, none⟩ (.int .i64 ((p.left : Int) + 1))).heap) :
    PoolIs W a C B F (upd wd (g / 64) (wd (g / 64) ||| 2 ^ (g % 64))) pt (p.down g) := by
  have hgw : g / 64 < (p.n + 63) / 64 := by omega
  have hw := h.wds _ hgw
  have hm : g % 64 < 64 := Nat.mod_lt _ (by decide)
  rw [or_bit hw.1 hm] at hW
  have hL := freeTo_upd (c := p.cnt) (x := 0) hg
  rw [if_neg (by omega), if_pos rfl] at hL
  have := h.turn (x := 0) (y := wd (g / 64) ||| 2 ^ (g % 64)) (L := p.left + 1) (W := W) hg (by omega) (or_lt hw.1 hm) (fun j hj => ?_) (by unfold Pool.left; omega) (by rw [hW]; rfl) (fun e => rfl)
  · rw [show (⟨p.n, upd p.cnt g 0, p.dat⟩ : Pool) = p.down g from by unfold Pool.down; rw [h1]] at this
    exact this
  · rw [or_test]
    by_cases e : j = g % 64
    · subst e; simp
    · rw [if_neg e, decide_eq_false (fun e' => e e'.symm), Bool.or_false]

set_option maxHeartbeats 400000 in
theorem down_last (a g : Nat) (w : World) (S : Nat → Prop) (p : Pool) (h : PoolAt w S a p) (hg : g < p.n) (h1 : p.cnt g = 1) :
    Calls Tryz.prog 38 #[.pointer (some ⟨a, 0, none⟩), .int .i64 g] w fun e w' => e = .returned (.int .i64 0) ∧ PoolAt w' S a (p.down g) ∧ Mod S w w' := by
  have ht : takenB p (g : Int) = true := by rw [takenB_nat]; exact decide_eq_true ⟨hg, by omega⟩
  have hT := fun W => taken_any a (g : Int) W S p
  rw [ht] at hT
  have HT := Lib.hid hT
  have HP := Lib.hid h
  obtain ⟨⟨C, B, F, wd, pt, hi, hS⟩, hlow, _, _⟩ := h
  have h0 : w.cell? ⟨a, 0, none⟩ = some (.slice (some ⟨C, 0, none⟩) p.n p.n) := one_block hi.self 0
  have h2 : w.cell? ⟨a, 2, none⟩ = some (.slice (some ⟨F, 0, none⟩) ((p.n + 63) / 64) ((p.n + 63) / 64)) := one_block hi.self 2
  have h3 : w.cell? ⟨a, 3, none⟩ = some (.int .i64 (p.left : Int)) := one_block hi.self 3
  have f3 := one_free hi.self 3
  have hc := row_cell hi.counts hg
  rw [h1] at hc
  have hf := one_free hi.counts g
  have hn := hi.few.2
  have hgw : g / 64 < (p.n + 63) / 64 := by omega
  have hw := row_cell hi.free hgw
  have fw := one_free hi.free (g / 64)
  obtain ⟨n1, n2, n3, n4, n5, n6⟩ := hi.apart
  have hl : p.left ≤ p.n := freeTo_le _ _
  have H1 := Lib.hid h1
  have HI := Lib.hid hi
  clear hi hT ht hlow h1
  go_enter Tryz.func38, Tryz.ntmps38
  go_wp2_with (go_at_call 83; refine (HT.out _ HP.out).mono ?_; rintro e w1 ⟨rfl, rfl⟩)
  go_region
  go_wp2
  go_ret
  have hm : Mod S w (((w.setCell ⟨C, g, none⟩ (.int .i64 0)).setCell ⟨F, g / 64, none⟩ (.int .u64 (bits .or .u64 (wd (g / 64) : Int) (IntKind.u64.wrap (2 ^ (g % 64)))))).setCell ⟨a, 3, none⟩ (.int .i64 ((p.left : Int) + 1))).drew :=
    (((mod_set hS.2.1 _ _).trans (Out.refl _ _) (mod_set hS.2.2.2.1 _ _)).trans (Out.refl _ _) (mod_set hS.1 _ _)).drew
  refine ⟨rfl, HP.out.stay hm ⟨C, B, F, _, pt, HI.out.last hg H1.out rfl, hS.1, hS.2.1, hS.2.2.1, hS.2.2.2.1, fun f b hf hc he => hS.2.2.2.2 f b hf ?_ he⟩, hm⟩
  by_cases e : f = g
  · subst e; rw [H1.out]; decide
  · simp only [Pool.down, upd_ne _ _ e] at hc; exact hc

end Go.Proofs.YtkkmcnngpahfaaaGreatDoor

namespace Go.Proofs.YtkkmcnngpahfaaaGreatDoor
open Go.RowKit
set_option linter.unusedSimpArgs false
set_option linter.unusedVariables false

theorem down_yes (a g : Nat) (w : World) (S : Nat → Prop) (p : Pool) (h : PoolAt w S a p) (hg : g < p.n) (h1 : 1 ≤ p.cnt g) :
    Calls Tryz.prog 38 #[.pointer (some ⟨a, 0, none⟩), .int .i64 g] w fun e w' => e = .returned (.int .i64 0) ∧ PoolAt w' S a (p.down g) ∧ Mod S w w' := by
  rcases Nat.lt_or_ge 1 (p.cnt g) with h2 | h2
  · exact down_more a g w S p h hg h2
  · exact down_last a g w S p h hg (by omega)

set_option maxHeartbeats 400000 in
theorem down_no (a : Nat) (f : Int) (w : World) (S : Nat → Prop) (p : Pool) (h : PoolAt w S a p) (ht : takenB p f = false) :
    Calls Tryz.prog 38 #[.pointer (some ⟨a, 0, none⟩), .int .i64 f] w fun e w' => e = .returned (.int .i64 1) ∧ w = w' := by
  have hT := fun W => taken_any a f W S p
  rw [ht] at hT
  have HT := Lib.hid hT
  clear hT ht
  go_enter Tryz.func38, Tryz.ntmps38
  go_wp2_with (go_at_call 83; refine (HT.out _ h).mono ?_; rintro e w1 ⟨rfl, rfl⟩)
  go_ret
  exact ⟨rfl, rfl⟩

def countB (p : Pool) (f : Int) : Nat := if takenB p f = true then p.cnt f.toNat else 0
theorem countB_nat {p : Pool} {g : Nat} (hg : g < p.n) : countB p (g : Int) = p.cnt g := by
  unfold countB
  rw [takenB_nat]
  by_cases h : 0 < p.cnt g
  · simp [hg, h]
  · simp [hg, h]; omega
theorem ret_int {k : IntKind} {a b : Int} (h : a = b) : Ending.returned (.int k a) = .returned (.int k b) := by rw [h]

set_option maxHeartbeats 400000 in
theorem count_any (a : Nat) (f : Int) (w : World) (S : Nat → Prop) (p : Pool) (h : PoolAt w S a p) :
    Calls Tryz.prog 22 #[.pointer (some ⟨a, 0, none⟩), .int .i64 f] w fun e w' => e = .returned (.int .i64 (countB p f : Int)) ∧ w = w' := by
  have hT := fun W => taken_any a f W S p
  have HP := Lib.hid h
  obtain ⟨⟨C, B, F, wd, pt, hi, hS⟩, hlow, _, _⟩ := h
  have h0 : w.cell? ⟨a, 0, none⟩ = some (.slice (some ⟨C, 0, none⟩) p.n p.n) := one_block hi.self 0
  have hn := hi.few.2
  cases ht : takenB p f with
  | true =>
    obtain ⟨g, rfl, hg, hpos⟩ := takenB_yes ht
    have hc := row_cell hi.counts hg
    have HC : Hid (countB p (g : Int) = p.cnt g) := Lib.hid (countB_nat hg)
    rw [ht] at hT
    have HT := Lib.hid hT
    clear hi hT ht hlow hS
    go_enter Tryz.func22, Tryz.ntmps22
    go_wp2_with (go_at_call 83; refine (HT.out _ HP.out).mono ?_; rintro e w1 ⟨rfl, rfl⟩)
    go_ret
    exact ⟨ret_int (by rw [HC.out]), rfl⟩
  | false =>
    have HC : Hid (countB p f = 0) := Lib.hid (by unfold countB; rw [ht]; rfl)
    rw [ht] at hT
    have HT := Lib.hid hT
    clear hi hT ht hlow hS
    go_enter Tryz.func22, Tryz.ntmps22
    go_wp2_with (go_at_call 83; refine (HT.out _ HP.out).mono ?_; rintro e w1 ⟨rfl, rfl⟩)
    go_ret
    exact ⟨ret_int (by rw [HC.out]; rfl), rfl⟩

set_option maxHeartbeats 400000 in
theorem pfree_any (a : Nat) (w : World) (S : Nat → Prop) (p : Pool) (h : PoolAt w S a p) :
    Calls Tryz.prog 69 #[.pointer (some ⟨a, 0, none⟩)] w fun e w' => e = .returned (.int .i64 (p.left : Int)) ∧ w = w' := by
  obtain ⟨⟨C, B, F, wd, pt, hi, hS⟩, hlow, _, _⟩ := h
  have h3 : w.cell? ⟨a, 3, none⟩ = some (.int .i64 (p.left : Int)) := one_block hi.self 3
  clear hi hS hlow
  go_enter Tryz.func69, Tryz.ntmps69
  go_wp2
  go_ret
  exact ⟨rfl, rfl⟩

end Go.Proofs.YtkkmcnngpahfaaaGreatDoor

namespace Go.Proofs.YtkkmcnngpahfaaaGreatDoor
open Go.RowKit
set_option linter.unusedSimpArgs false
set_option linter.unusedVariables false

theorem made_rowV (z : Value) (n : Nat) : madeCells #[z] n = rowV n fun _ => z := by
  apply Array.ext_getElem?
  intro j
  by_cases h : j < n
  · rw [rowV_at h]
    simp [madeCells, h, Nat.mod_one]
  · rw [Array.getElem?_eq_none (by rw [size_madeCells]; omega), Array.getElem?_eq_none (by rw [rowV_size]; omega)]

def overlay (gd gs : Nat → Value) (o so k : Nat) : Nat → Value := fun i => if o ≤ i ∧ i < o + k then gs (so + (i - o)) else gd i

theorem splice_rows {n m o so k : Nat} {gd gs : Nat → Value} (h1 : o + k ≤ n) (h2 : so + k ≤ m) :
    ((rowV n gd).toList.take o ++ (((List.range k).map fun i => gs (so + i)) ++ (rowV n gd).toList.drop (o + k))).toArray = rowV n (overlay gd gs o so k) := by
  apply Array.ext_getElem?
  intro j
  have hl : (rowV n gd).toList.length = n := by rw [Array.length_toList, rowV_size]
  rw [List.getElem?_toArray]
  by_cases hj : j < n
  · rw [rowV_at hj]
    unfold overlay
    by_cases c1 : j < o
    · rw [List.getElem?_append_left (by rw [List.length_take, hl]; omega), List.getElem?_take, if_pos c1, Array.getElem?_toList, rowV_at hj, if_neg (by omega)]
    · rw [List.getElem?_append_right (by rw [List.length_take, hl]; omega), List.length_take, hl, Nat.min_eq_left (by omega)]
      by_cases c2 : j < o + k
      · rw [List.getElem?_append_left (by simp; omega), if_pos (by omega), List.getElem?_map, List.getElem?_range (by omega)]
        rfl
      · rw [List.getElem?_append_right (by simp; omega), if_neg (by omega), List.getElem?_drop, Array.getElem?_toList]
        simp only [List.length_map, List.length_range]
        rw [show o + k + (j - o - k) = j from by omega, rowV_at hj]
  · rw [Array.getElem?_eq_none (by rw [rowV_size]; omega), List.getElem?_eq_none]
    simp [hl]
    omega

/-- copy out of a row into a row. -/
theorem wpList_copy_rows {w : World} {ops : Array Oper} {rest : List Oper} {o : Oper} {a : Act} {Q : Exit → Act → World → Prop} (hgd : o.guard = none) (d s : Operand) (dT sT : TypeId)
    (ho : o.op = .call { callee := .builtin .copy, args := #[d, s], argTypes := #[dT, sT] }) (elem : TypeId) (hu : Tryz.prog.underlying dT = some (.slice elem)) (hsz : (Tryz.prog.info? elem).map (·.size) = some 1)
    (g off dLen dCap h so sLen sCap k : Nat) (hd : a.eval d = .slice (some ⟨g, off, none⟩) dLen dCap) (hs : a.eval s = .slice (some ⟨h, so, none⟩) sLen sCap) (hk : k = Nat.min sLen dLen)
    (n m : Nat) (gd gs : Nat → Value) (t t' : TypeId) (hg : w.heap[g]? = some (.cells (rowV n gd) t (0, 0))) (fr : Nat × Nat) (hh : w.heap[h]? = some (.cells (rowV m gs) t' fr)) (h1 : off + k ≤ n) (h2 : so + k ≤ m)
    (hone : ∀ i, (gs i).oneCell' = true)
    (hc : wpList Tryz.prog ops Q rest (a.put o.dst (goInt k)) (w.setRow g (rowV n (overlay gd gs off so k)))) : wpList Tryz.prog ops Q (o :: rest) a w := by
  refine wpList_copy_own hgd d s dT sT ho elem hu hsz g off dLen dCap ⟨h, so, none⟩ sLen sCap hd hs (rowV n gd) t hg ((List.range k).map fun i => gs (so + i)) (by simp [hk]) (fun j v hv => ?_) (by rw [rowV_size]; simpa using h1) (fun v hv => ?_) ?_
  · have hjk : j < k := by
      have := (List.getElem?_eq_some_iff.1 hv).1
      simpa using this
    rw [List.getElem?_map, List.getElem?_range hjk] at hv
    simp only [Option.map_some, Option.some.injEq] at hv
    subst hv
    have e : (⟨h, so, none⟩ : Addr).add j = ⟨h, so + j, none⟩ := by unfold Addr.add; split <;> simp_all
    rw [e, one_block hh, rowV_at (by omega)]
  · obtain ⟨i, _, rfl⟩ := List.mem_map.1 hv
    exact hone _
  · have hs2 := splice_rows (gd := gd) (gs := gs) h1 h2
    simp only [List.length_map, List.length_range]
    rw [hs2]
    exact hc

theorem mod_row {S : Nat → Prop} {w : World} {b : Nat} (hb : S b) (cs : Array Value) : Mod S w (w.setRow b cs) :=
  ⟨rfl, rfl, rfl, by simp [World.setRow], fun k _ hk => setRow_other w b k cs (fun e => hk (by rw [e]; exact hb))⟩

/-- A row of bytes of the call's own. -/
def BytesAt (w : World) (b n : Nat) (d : Nat → Nat) : Prop := w.heap[b]? = some (.cells (rowV n fun i => .int .u8 (d i : Int)) 5 (0, 0))
theorem u8_one : (Tryz.prog.info? 5).map (·.size) = some 1 := by kernel_rfl
theorem u8_info : (Tryz.prog.info? 5).map (fun i => (i.zero, i.size, i.bytes)) = some (some (.int .u8 0), 1, 1) := by kernel_rfl
theorem make_bytes (n : Nat) (hn : n ≤ 1000000) (W : World) : (Instr.makeSlice 99 (.int .i64 (n : Int)) (.int .i64 (n : Int))).run Tryz.prog W = .ok (.slice (some ⟨W.heap.size, 0, none⟩) n n) (W.alloc (.cells (rowV n fun _ => .int .u8 0) 5)) := by
  obtain ⟨i0, hi0, hz0, hz1, hz2⟩ := info_parts u8_info
  have h := run_make (P := Tryz.prog) W 99 5 i0 (.int .u8 0) Tryz.underlying99 hi0 hz0 .i64 .i64 (n : Int) (n : Int) (by omega) (by omega) (by rw [hz2]; omega) (by omega)
  rw [h, hz1]
  simp [Value.cells, made_rowV]

theorem frame_len : Tryz.prog.arrayLen 127 = 4096 := by kernel_rfl
theorem frame_elem : Tryz.prog.elem 127 = 5 := by kernel_rfl
theorem frame_und : Tryz.prog.underlying 127 = some (.array (Tryz.prog.arrayLen 127) (Tryz.prog.elem 127)) := by kernel_rfl
theorem u8_sizeOf (W : World) : (sizeOf 5).run Tryz.prog W = .ok 1 W := by
  obtain ⟨i0, hi0, hz0, hz1, hz2⟩ := info_parts u8_info
  simp [sizeOf, typeInfo, hi0, hz1]
theorem slice_frame (b off n : Nat) (h : off + n ≤ 4096) (W : World) :
    (Instr.sliceAt 127 (.pointer (some ⟨b, 0, none⟩)) (some (.int .i64 (off : Int))) (some (.int .i64 ((off : Int) + (n : Int)))) (some (.int .i64 ((off : Int) + (n : Int))))).run Tryz.prog W = .ok (.slice (some ⟨b, if n = 0 then 0 else off, none⟩) n n) W := by
  have h1 := run_sliceAt_array_lhm W 127 ⟨b, 0, none⟩ frame_und .i64 .i64 .i64 (off : Int) ((off : Int) + (n : Int)) ((off : Int) + (n : Int)) (by omega) (by omega) (by omega) (by rw [frame_len]; omega)
  rw [h1, frame_elem, u8_sizeOf]
  have e : ((off : Int) + (n : Int)).toNat = off + n := by omega
  simp only [Result.andThen_ok, slicedAt, e, Int.toNat_natCast, Nat.add_sub_cancel_left]
  by_cases hn : n = 0
  · subst hn; simp
  · rw [if_neg (by omega), if_neg hn]
    unfold Addr.add
    split <;> simp_all

set_option maxRecDepth 100000 in
set_option maxHeartbeats 1000000 in
theorem load_yes (a g off n : Nat) (w : World) (S : Nat → Prop) (p : Pool) (h : PoolAt w S a p) (hg : g < p.n) (h1 : 1 ≤ p.cnt g) (ho : off ≤ 4096) (hn : n ≤ 4096 - off) :
    Calls Tryz.prog 56 #[.pointer (some ⟨a, 0, none⟩), .int .i64 g, .int .i64 off, .int .i64 n] w
      fun e w' => e = .returned (.tuple #[.slice (some ⟨w.heap.size, 0, none⟩) n n, .int .i64 0]) ∧ BytesAt w' w.heap.size n (fun i => p.dat g (off + i)) ∧ w.heap.size < w'.heap.size ∧ Below w.heap.size w w' := by
  have ht : takenB p (g : Int) = true := by rw [takenB_nat]; exact decide_eq_true ⟨hg, by omega⟩
  have hT := fun W => taken_any a (g : Int) W S p
  rw [ht] at hT
  have HT := Lib.hid hT
  have HP := Lib.hid h
  obtain ⟨⟨C, B, F, wd, pt, hi, hS⟩, hlow, _, _⟩ := h
  have h1' : w.cell? ⟨a, 1, none⟩ = some (.slice (some ⟨B, 0, none⟩) p.n p.n) := one_block hi.self 1
  obtain ⟨b, hb1, hb2, hb3, hb4, hb5, hb6⟩ := hi.bytes g hg (by omega)
  have hpt := row_cell hi.ptrs hg
  rw [hb1] at hpt
  have hba := hlow a hS.1
  have hbB := hlow B hS.2.2.1
  have hbb := hlow b (hS.2.2.2.2 g b hg (by omega) hb1)
  have hN := hi.few.2
  have HB2 := Lib.hid hb2
  have hmk := make_bytes n (by omega)
  clear hi hT ht hlow hS hb1 hb2
  go_enter Tryz.func56, Tryz.ntmps56
  go_upto_region 6 with (go_at_call 83; refine (HT.out _ HP.out).mono ?_; rintro e w1 ⟨rfl, rfl⟩)
  have hX : (w.alloc (.cells (rowV n fun _ => .int .u8 0) 5)).heap[w.heap.size]? = some (.cells (rowV n fun _ => .int .u8 0) 5 (0, 0)) := heap_alloc_new w _
  have hY : (w.alloc (.cells (rowV n fun _ => .int .u8 0) 5)).heap[b]? = some (.cells (rowV 4096 fun i => .int .u8 (p.dat g i : Int)) 127 (0, 0)) := (Below.heap_alloc _ _ _ hbb).trans HB2.out
  have HX := Lib.hid hX
  have HY := Lib.hid hY
  clear hX hY
  have hsl := slice_frame b off n (by omega)
  have hso : (if n = 0 then 0 else off) + n ≤ 4096 := by split <;> omega
  generalize hS0 : (if n = 0 then 0 else off) = so at *
  have HS0 := Lib.hid hS0
  clear hS0
  go_wp2_with ((with_reducible refine wpList_copy_rows rfl (.tmp 39) (.tmp 55) 99 99 rfl 5 Tryz.underlying99 u8_one w.heap.size 0 n n b so n n n rfl rfl (by simp) n 4096 _ _ _ _ HX.out _ HY.out (by omega) (by omega) (fun _ => rfl) ?_))
  go_ret2
  refine ⟨rfl, ?_, by simp [World.setRow], ?_⟩
  · unfold BytesAt
    rw [setRow_heap _ _ _ _ _ _ HX.out]
    congr 2
    refine rowV_congr fun i hi => ?_
    unfold overlay
    rw [if_pos (by omega), ← HS0.out, if_neg (by omega)]
    simp
  · exact below_setRow ((Below.refl _ _).alloc (Nat.le_refl _) _) (Nat.le_refl _) _

set_option maxRecDepth 100000 in
set_option maxHeartbeats 1000000 in
theorem load_no (a : Nat) (f off n : Int) (w : World) (S : Nat → Prop) (p : Pool) (h : PoolAt w S a p) (ht : takenB p f = false) :
    Calls Tryz.prog 56 #[.pointer (some ⟨a, 0, none⟩), .int .i64 f, .int .i64 off, .int .i64 n] w
      fun e w' => e = .returned (.tuple #[.slice none 0 0, .int .i64 1]) ∧ w = w' := by
  have hT := fun W => taken_any a f W S p
  rw [ht] at hT
  have HT := Lib.hid hT
  clear hT ht
  go_enter Tryz.func56, Tryz.ntmps56
  go_wp2_with (go_at_call 83; refine (HT.out _ h).mono ?_; rintro e w1 ⟨rfl, rfl⟩)
  go_ret2
  exact ⟨rfl, rfl⟩

/-- Bytes that can be read from a slice on. -/
def BytesV (w : World) (A : Option Addr) (n : Nat) (d : Nat → Nat) : Prop := 0 < n → ∃ ad, A = some ad ∧ ∀ j, j < n → w.cell? (ad.add j) = some (.int .u8 (d j : Int))
theorem BytesAt.v {w : World} {b n : Nat} {d : Nat → Nat} (h : BytesAt w b n d) : BytesV w (some ⟨b, 0, none⟩) n d := fun _ => ⟨_, rfl, fun j hj => by
  rw [Addr.add_mid, Nat.zero_add]
  exact row_cell h hj⟩
theorem BytesV.below {w w' : World} {B n : Nat} {A : Option Addr} {d : Nat → Nat} (h : BytesV w A n d) (hb : Below B w w') (hA : ∀ ad, A = some ad → ad.block < B) : BytesV w' A n d := fun h0 => by
  obtain ⟨ad, e, hc⟩ := h h0
  refine ⟨ad, e, fun j hj => ?_⟩
  rw [← hc j hj]
  refine hb.cell ?_
  have : (ad.add j).block = ad.block := by unfold Addr.add; split <;> rfl
  rw [this]
  exact hA ad e
/-- copy of bytes into a row. -/
theorem wpList_copy_bytes {w : World} {ops : Array Oper} {rest : List Oper} {o : Oper} {a : Act} {Q : Exit → Act → World → Prop} (hgd : o.guard = none) (d s : Operand)
    (ho : o.op = .call { callee := .builtin .copy, args := #[d, s], argTypes := #[99, 99] })
    (g off dLen dCap n sCap : Nat) (A : Option Addr) (hd : a.eval d = .slice (some ⟨g, off, none⟩) dLen dCap) (hs : a.eval s = .slice A n sCap) (hk : n ≤ dLen)
    (N : Nat) (gd : Nat → Value) (e : Nat → Nat) (t : TypeId) (hg : w.heap[g]? = some (.cells (rowV N gd) t (0, 0))) (hA : BytesV w A n e) (h1 : off + n ≤ N)
    (hc : wpList Tryz.prog ops Q rest (a.put o.dst (goInt n)) (w.setRow g (rowV N (overlay gd (fun i => .int .u8 (e i : Int)) off 0 n)))) : wpList Tryz.prog ops Q (o :: rest) a w := by
  rcases Nat.eq_zero_or_pos n with rfl | hn
  · have h0 := wpList_copy_nothing (P := Tryz.prog) (w := w) (ops := ops) (rest := rest) (Q := Q) hgd d s 99 99 ho 5 Tryz.underlying99 u8_one _ _ dLen dCap 0 sCap hd hs (by simp)
    refine h0 ?_
    have e1 : w.setRow g (rowV N (overlay gd (fun i => .int .u8 (e i : Int)) off 0 0)) = w := by
      rw [rowV_congr (h := gd) (fun i hi => by unfold overlay; rw [if_neg (by omega)])]
      exact setRow_self w g _ t _ hg
    rw [e1] at hc
    exact hc
  · obtain ⟨ad, rfl, hcs⟩ := hA hn
    refine wpList_copy_own hgd d s 99 99 ho 5 Tryz.underlying99 u8_one g off dLen dCap ad n sCap hd hs (rowV N gd) t hg ((List.range n).map fun i => .int .u8 (e i : Int)) (by rw [List.length_map, List.length_range]; exact (Nat.min_eq_left hk).symm) (fun j v hv => ?_) (by rw [rowV_size]; simpa using h1) (fun v hv => ?_) ?_
    · have hjk : j < n := by
        have := (List.getElem?_eq_some_iff.1 hv).1
        simpa using this
      rw [List.getElem?_map, List.getElem?_range hjk] at hv
      simp only [Option.map_some, Option.some.injEq] at hv
      subst hv
      exact hcs j hjk
    · obtain ⟨i, _, rfl⟩ := List.mem_map.1 hv
      rfl
    · have hs2 := splice_rows (gd := gd) (gs := fun i => .int .u8 (e i : Int)) (so := 0) h1 (Nat.le_refl (0 + n))
      simp only [List.length_map, List.length_range]
      simp only [Nat.zero_add] at hs2
      rw [hs2]
      exact hc
/-- A frame's bytes are turned. -/
theorem PoolIs.setBytes {w : World} {a C B F b g : Nat} {wd : Nat → Nat} {pt : Nat → Option Nat} {p : Pool} (h : PoolIs w a C B F wd pt p) (hg : g < p.n) (h1 : 1 ≤ p.cnt g) (hb : pt g = some b) (d : Nat → Nat) (hd : ∀ i, d i < 256)
    {v : Nat → Value} (hv : ∀ i, i < 4096 → v i = .int .u8 (d i : Int)) : PoolIs (w.setRow b (rowV 4096 v)) a C B F wd pt (p.store g d) := by
  obtain ⟨b', e, h2, h3, h4, h5, h6⟩ := h.bytes g hg h1
  rw [hb] at e
  injection e with e
  subst e
  have far : ∀ k, k ≠ b → (w.setRow b (rowV 4096 v)).heap[k]? = w.heap[k]? := fun k hk => setRow_other w b k _ hk
  refine ⟨(far a h3.symm).trans h.self, (far C h4.symm).trans h.counts, (far B h5.symm).trans h.ptrs, (far F h6.symm).trans h.free, h.wds, fun f hf hc => ?_, h.sole, h.apart, fun f i => ?_, h.few, h.cap⟩
  · obtain ⟨b', e, k2, k3⟩ := h.bytes f hf hc
    refine ⟨b', e, ?_, k3⟩
    by_cases ef : f = g
    · subst ef
      rw [hb] at e
      injection e with e
      subst e
      have hrow : rowV 4096 v = rowV 4096 fun i => .int .u8 ((p.store f d).dat f i : Int) := rowV_congr fun i hi => by
        rw [hv i hi]
        simp only [Pool.store, upd_same]
      rw [setRow_heap w b _ _ _ _ h2, hrow]
    · have : b' ≠ b := fun e2 => ef (h.sole f g b hf hg hc h1 (by rw [e, e2]) hb)
      rw [far b' this, k2]
      simp only [Pool.store, upd_ne _ _ ef]
  · by_cases ef : f = g
    · subst ef; simp only [Pool.store, upd_same]; exact hd i
    · simp only [Pool.store, upd_ne _ _ ef]; exact h.small f i
theorem slice_frame_from (b off : Nat) (h : off ≤ 4096) (W : World) :
    (Instr.sliceAt 127 (.pointer (some ⟨b, 0, none⟩)) (some (.int .i64 (off : Int))) none none).run Tryz.prog W = .ok (.slice (some ⟨b, if off = 4096 then 0 else off, none⟩) (4096 - off) (4096 - off)) W := by
  have h1 := run_sliceAt_array_l W 127 ⟨b, 0, none⟩ frame_und .i64 (off : Int) (by omega) (by rw [frame_len]; omega)
  rw [h1, frame_elem, u8_sizeOf, frame_len]
  simp only [Result.andThen_ok, slicedAt, Int.toNat_natCast]
  by_cases hn : off = 4096
  · subst hn; simp
  · rw [if_neg (by omega), if_neg hn]
    unfold Addr.add
    split <;> simp_all

def laid (d0 d : Nat → Nat) (off n : Nat) : Nat → Nat := fun i => if off ≤ i ∧ i < off + n then d (i - off) else d0 i

set_option maxRecDepth 100000 in
set_option maxHeartbeats 1000000 in
theorem store_yes (a g off n c : Nat) (A : Option Addr) (d : Nat → Nat) (w : World) (S : Nat → Prop) (p : Pool) (h : PoolAt w S a p) (hg : g < p.n) (h1 : 1 ≤ p.cnt g) (ho : off ≤ 4096) (hn : n ≤ 4096 - off) (hA : BytesV w A n d) (hd : ∀ j, d j < 256) :
    Calls Tryz.prog 93 #[.pointer (some ⟨a, 0, none⟩), .int .i64 g, .int .i64 off, .slice A n c] w
      fun e w' => e = .returned (.int .i64 0) ∧ PoolAt w' S a (p.store g (laid (p.dat g) d off n)) ∧ Mod S w w' := by
  have ht : takenB p (g : Int) = true := by rw [takenB_nat]; exact decide_eq_true ⟨hg, by omega⟩
  have hT := fun W => taken_any a (g : Int) W S p
  rw [ht] at hT
  have HT := Lib.hid hT
  have HP := Lib.hid h
  obtain ⟨⟨C, B, F, wd, pt, hi, hS⟩, hlow, _, _⟩ := h
  have h1' : w.cell? ⟨a, 1, none⟩ = some (.slice (some ⟨B, 0, none⟩) p.n p.n) := one_block hi.self 1
  obtain ⟨b, hb1, hb2, hb3, hb4, hb5, hb6⟩ := hi.bytes g hg (by omega)
  have hpt := row_cell hi.ptrs hg
  rw [hb1] at hpt
  have hN := hi.few.2
  have HB2 := Lib.hid hb2
  have HI := Lib.hid hi
  have HB1 := Lib.hid hb1
  have HA := Lib.hid hA
  have hsl := slice_frame_from b off ho
  clear hi hT ht hlow hb1 hb2 hA
  have hso : (if off = 4096 then 0 else off) ≤ 4096 := by split <;> omega
  generalize hS0 : (if off = 4096 then 0 else off) = so at *
  have HS0 := Lib.hid hS0
  clear hS0
  go_enter Tryz.func93, Tryz.ntmps93
  go_upto_region 5 with (go_at_call 83; refine (HT.out _ HP.out).mono ?_; rintro e w1 ⟨rfl, rfl⟩)
  go_wp2_with ((with_reducible refine wpList_copy_bytes rfl (.tmp 41) (.tmp 42) rfl b so (4096 - off) (4096 - off) n c A rfl rfl (by omega) 4096 _ d _ HB2.out HA.out (by rw [← HS0.out]; split <;> omega) ?_))
  go_ret
  have hfin := HI.out.setBytes hg h1 HB1.out (laid (p.dat g) d off n) (fun i => by unfold laid; split; exact hd _; exact HI.out.small _ _) (v := overlay (fun i => .int .u8 (p.dat g i : Int)) (fun i => .int .u8 (d i : Int)) so 0 n) (fun i hi => by
    unfold overlay laid
    by_cases e : n = 0
    · rw [if_neg (by omega), if_neg (by omega)]
    · have e2 : so = off := by rw [← HS0.out, if_neg (by omega)]
      subst e2
      by_cases e3 : so ≤ i ∧ i < so + n
      · rw [if_pos e3, if_pos e3]; simp
      · rw [if_neg e3, if_neg e3])
  exact ⟨rfl, HP.out.stay (mod_row (hS.2.2.2.2 g b hg (by omega) HB1.out) _) ⟨C, B, F, wd, pt, hfin, hS⟩, mod_row (hS.2.2.2.2 g b hg (by omega) HB1.out) _⟩

end Go.Proofs.YtkkmcnngpahfaaaGreatDoor

namespace Go.Proofs.YtkkmcnngpahfaaaGreatDoor
open Go.RowKit
set_option linter.unusedSimpArgs false
set_option linter.unusedVariables false

theorem tz_key (x a : Nat) (hx : x < 18446744073709551616) (hx0 : x ≠ 0) (hlow : x &&& (18446744073709551616 - x) = a) :
    IntKind.u64.wrap (bits BinOp.and IntKind.u64 (x : Int) (IntKind.u64.wrap (-(x : Int))) * 285870213051353865) / 288230376151711744 = ((a * 285870213051353865 % 18446744073709551616 / 288230376151711744 : Nat) : Int) := by
  have e1 : IntKind.u64.wrap (-(x : Int)) = ((18446744073709551616 - x : Nat) : Int) := by rw [IntKind.wrap_u64]; omega
  rw [e1, bits_and_u64_nat x _ hx (by omega), hlow, IntKind.wrap_u64]
  omega

set_option maxHeartbeats 1000000 in
theorem tz_core (x k idx : Nat) (w : World) (hx0 : ((x : Int) == 0) = false)
    (key : IntKind.u64.wrap (bits BinOp.and IntKind.u64 (x : Int) (IntKind.u64.wrap (-(x : Int))) * 285870213051353865) / 288230376151711744 = (idx : Int))
    (hi : idx < 64) (hk : k < 64) (hcell : w.cell? ⟨0, idx, none⟩ = some (.int .u8 k)) :
    Calls Tryz.prog 72 #[.int .u64 x] w fun e w' => e = .returned (.int .i64 k) ∧ w = w' := by
  go_enter Tryz.func72, Tryz.ntmps72
  go_wp2_with (simp only [key])
  go_ret
  exact ⟨rfl, rfl⟩

/-- the lowest bit that is set -/
theorem tz_any (x : Nat) (hx : x < 18446744073709551616) (hx0 : x ≠ 0) (w : World) (hT : DB w) :
    Calls Tryz.prog 72 #[.int .u64 x] w fun e w' => e = .returned (.int .i64 (Lib.ctz 64 x : Nat)) ∧ w = w' := by
  obtain ⟨hlow, hk⟩ := Lib.lowest_bit 64 x hx0 hx
  obtain ⟨hi, htab⟩ := Lib.deBruijn64_at _ hk
  have hcell := hT _ hi
  rw [htab] at hcell
  exact tz_core x _ _ w (by simp; omega) (tz_key x _ hx hx0 hlow) hi hk hcell

theorem ctz_bits {x k : Nat} (hx : x < 18446744073709551616) (hk : k < 64) (h1 : x.testBit k = true) (h2 : ∀ j, j < k → x.testBit j = false) : Lib.ctz 64 x = k := by
  have hx0 : x ≠ 0 := fun e => by rw [e] at h1; simp at h1
  obtain ⟨m, hm, hk2⟩ := Lib.ctzFrom_spec 64 x (by omega) hx
  have e : Lib.ctz 64 x = Lib.ctzFrom 64 x := by simp [Lib.ctz, hx0]
  rw [e]
  generalize Lib.ctzFrom 64 x = c at hm hk2
  have t1 : x.testBit c = true := by
    rw [hm, Nat.mul_comm, Nat.testBit_mul_two_pow]
    simp
  have t2 : ∀ j, j < c → x.testBit j = false := fun j hj => by
    rw [hm, Nat.mul_comm, Nat.testBit_mul_two_pow]
    simp; omega
  rcases Nat.lt_trichotomy c k with h | h | h
  · rw [h2 c h] at t1; cases t1
  · exact h
  · rw [t2 k h] at h1; cases h1

end Go.Proofs.YtkkmcnngpahfaaaGreatDoor

namespace Go.Proofs.YtkkmcnngpahfaaaGreatDoor
open Go.RowKit
set_option linter.unusedSimpArgs false
set_option linter.unusedVariables false

theorem zero_of_bits {x : Nat} (hx : x < 18446744073709551616) (h : ∀ j, j < 64 → x.testBit j = false) : x = 0 := by
  refine Nat.eq_of_testBit_eq fun i => ?_
  rw [Nat.zero_testBit]
  rcases Nat.lt_or_ge i 64 with h1 | h1
  · exact h i h1
  · exact Nat.testBit_lt_two_pow (Nat.lt_of_lt_of_le hx (by
      have : (2 : Nat) ^ 64 ≤ 2 ^ i := Nat.pow_le_pow_right (by decide) h1
      exact this))
theorem PoolIs.zeroWord {w : World} {a C B F : Nat} {wd : Nat → Nat} {pt : Nat → Option Nat} {p : Pool} (h : PoolIs w a C B F wd pt p) {i : Nat} (hi : i < (p.n + 63) / 64) (hz : ∀ f, f / 64 = i → f < p.n → p.cnt f ≠ 0) : wd i = 0 := by
  refine zero_of_bits (h.wds i hi).1 fun j hj => ?_
  rw [(h.wds i hi).2 j hj]
  exact decide_eq_false fun e => hz (64 * i + j) (by omega) e.1 e.2

def zpage : Array Value := rowV 4096 fun _ => .int .u8 0
theorem zpage_built : Tryz.prog.built 127 [] = some zpage := by kernel_rfl

theorem rowV_upd {α : Type} (n : Nat) (F : α → Value) (c : Nat → α) (g : Nat) (x : α) : rowV n (upd (fun i => F (c i)) g (F x)) = rowV n fun i => F (upd c g x i) := rowV_congr fun i _ => by
  by_cases e : i = g
  · subst e; rw [upd_same, upd_same]
  · rw [upd_ne _ _ e, upd_ne _ _ e]

theorem wpList_zpage {ops : Array Oper} {rest : List Oper} {o : Oper} {a : Act} {w : World} {Q : Exit → Act → World → Prop} (hg : o.guard = none) (ho : o.op = .build 127 #[])
    (h : wpList Tryz.prog ops Q rest (a.put o.dst (.agg zpage)) w) : wpList Tryz.prog ops Q (o :: rest) a w := by
  refine wpList_build hg 127 #[] ho ?_ ?_
  · simp [zpage_built]
  · have e : (Tryz.prog.built 127 ((#[] : Array (Nat × Operand)).map fun (i, x) => (i, a.eval x)).toList).getD #[] = zpage := by simp [zpage_built]
    rw [e]
    exact h

/-- A free frame is taken: its count is 1, its bytes are new. -/
theorem PoolIs.taken {w W : World} {a C B F nb : Nat} {wd : Nat → Nat} {pt : Nat → Option Nat} {p : Pool} (h : PoolIs w a C B F wd pt p) {g : Nat} (hg : g < p.n) (h0 : p.cnt g = 0) (hnb : nb ≠ a ∧ nb ≠ C ∧ nb ≠ B ∧ nb ≠ F) (hold : ∀ f b, f < p.n → 0 < p.cnt f → pt f = some b → b ≠ nb)
    (hC : W.heap[C]? = some (.cells (rowV p.n fun f => .int .i64 ((upd p.cnt g 1 f : Nat) : Int)) 3 (0, 0)))
    (hB : W.heap[B]? = some (.cells (rowV p.n fun f => .pointer ((upd pt g (some nb) f).map fun b => ⟨b, 0, none⟩)) 125 (0, 0)))
    (hF : W.heap[F]? = some (.cells (rowV ((p.n + 63) / 64) fun i => .int .u64 ((upd wd (g / 64) (wd (g / 64) &&& (18446744073709551615 - 2 ^ (g % 64))) i : Nat) : Int)) 36 (0, 0)))
    (hA : W.heap[a]? = some (.cells #[.slice (some ⟨C, 0, none⟩) p.n p.n, .slice (some ⟨B, 0, none⟩) p.n p.n, .slice (some ⟨F, 0, none⟩) ((p.n + 63) / 64) ((p.n + 63) / 64), .int .i64 ((p.left : Int) - 1)] 123 (0, 0)))
    (hN : W.heap[nb]? = some (.cells zpage 127 (0, 0)))
    (far : ∀ b, b ≠ a → b ≠ C → b ≠ B → b ≠ F → b ≠ nb → W.heap[b]? = w.heap[b]?) :
    PoolIs W a C B F (upd wd (g / 64) (wd (g / 64) &&& (18446744073709551615 - 2 ^ (g % 64)))) (upd pt g (some nb)) (p.takeAt g) := by
  have hl : (p.takeAt g).left + 1 = p.left := by
    have := freeTo_upd (c := p.cnt) (x := 1) hg
    rw [if_pos h0, if_neg (by omega)] at this
    exact this
  have hc : ∀ f, f ≠ g → (p.takeAt g).cnt f = p.cnt f := fun f e => upd_ne _ _ e
  refine ⟨?_, hC, hB, hF, fun i hi => ?_, fun f hf hp => ?_, fun f k b hf hk h1 h2 e1 e2 => ?_, h.apart, fun f i => ?_, h.few, fun f => ?_⟩
  · rw [hA, show ((p.left : Int) - 1) = ((p.takeAt g).left : Int) from by omega]
    rfl
  · by_cases e : i = g / 64
    · subst e
      rw [upd_same]
      refine ⟨clr_lt (h.wds _ hi).1, fun j hj => ?_⟩
      rw [clr_test (Nat.mod_lt _ (by decide)) hj, (h.wds _ hi).2 j hj]
      by_cases e2 : j = g % 64
      · subst e2
        rw [decide_eq_true (rfl : g % 64 = g % 64), Bool.not_true, Bool.and_false]
        refine (decide_eq_false fun e => ?_).symm
        have e3 := e.2
        rw [show 64 * (g / 64) + g % 64 = g from by omega] at e3
        simp only [Pool.takeAt, upd_same] at e3
        omega
      · rw [show decide (g % 64 = j) = false from decide_eq_false (fun e' => e2 e'.symm), Bool.not_false, Bool.and_true]
        exact decide_eq_decide.2 (by rw [hc (64 * (g / 64) + j) (by omega)]; exact Iff.rfl)
    · rw [upd_ne _ _ e]
      refine ⟨(h.wds i hi).1, fun j hj => ?_⟩
      rw [(h.wds i hi).2 j hj]
      exact decide_eq_decide.2 (by rw [hc (64 * i + j) (by omega)]; exact Iff.rfl)
  · by_cases e : f = g
    · subst e
      refine ⟨nb, upd_same _ _ _, ?_, hnb⟩
      rw [hN]
      have : zpage = rowV 4096 fun i => .int .u8 ((p.takeAt f).dat f i : Int) := rowV_congr fun i _ => by simp [Pool.takeAt, upd_same]
      rw [this]
    · rw [hc f e] at hp
      obtain ⟨b, e1, e2, e3⟩ := h.bytes f hf hp
      refine ⟨b, by rw [upd_ne _ _ e]; exact e1, ?_, e3⟩
      rw [far b e3.1 e3.2.1 e3.2.2.1 e3.2.2.2 (hold f b hf hp e1), e2]
      simp [Pool.takeAt, upd_ne _ _ e]
  · by_cases ef : f = g
    · by_cases ek : k = g
      · rw [ef, ek]
      · subst ef
        rw [upd_same] at e1
        injection e1 with e1
        subst e1
        rw [upd_ne _ _ ek] at e2
        rw [hc k ek] at h2
        exact absurd rfl (hold k _ hk h2 e2)
    · by_cases ek : k = g
      · subst ek
        rw [upd_same] at e2
        injection e2 with e2
        subst e2
        rw [upd_ne _ _ ef] at e1
        rw [hc f ef] at h1
        exact absurd rfl (hold f _ hf h1 e1)
      · rw [upd_ne _ _ ef] at e1
        rw [upd_ne _ _ ek] at e2
        rw [hc f ef] at h1
        rw [hc k ek] at h2
        exact h.sole f k b hf hk h1 h2 e1 e2
  · by_cases e : f = g
    · subst e; simp [Pool.takeAt, upd_same]
    · simp only [Pool.takeAt, upd_ne _ _ e]; exact h.small f i
  · by_cases e : f = g
    · subst e; simp only [Pool.takeAt, upd_same]; decide
    · rw [hc f e]; exact h.cap f

def TakePost (w : World) (S : Nat → Prop) (a : Nat) (p : Pool) (f : Nat) (e : Ending) (w' : World) : Prop :=
  e = .returned (.tuple #[.int .i64 (f : Int), .int .i64 0]) ∧ ∃ S', PoolAt w' S' a (p.takeAt f) ∧ Mod S w w' ∧ Out S S' w

set_option maxRecDepth 100000 in
set_option maxHeartbeats 2000000 in
theorem take_none (a : Nat) (w : World) (S : Nat → Prop) (p : Pool) (h : PoolAt w S a p) (hl : p.lowest = none) :
    Calls Tryz.prog 19 #[.pointer (some ⟨a, 0, none⟩)] w fun e w' => e = .returned (.tuple #[.int .i64 0, .int .i64 4]) ∧ w = w' := by
  have hno := lowest_none hl
  obtain ⟨⟨C, B, F, wd, pt, hi, hS⟩, hlow, _, _⟩ := h
  have h2 : w.cell? ⟨a, 2, none⟩ = some (.slice (some ⟨F, 0, none⟩) ((p.n + 63) / 64) ((p.n + 63) / 64)) := one_block hi.self 2
  have hn := hi.few.2
  have HI := Lib.hid hi
  have HN := Lib.hid hno
  clear hi hS hlow hno hl
  generalize hm : (p.n + 63) / 64 = m at *
  have HM := Lib.hid hm
  have hm9 : m ≤ 16 := by omega
  clear hm
  go_enter Tryz.func19, Tryz.ntmps19
  go_wp2
  go_loop [14] (fun i => ∃ k : Nat, k ≤ m ∧ i = .int .i64 k) (fun i => m - (intOf i).toNat)
  case atStart => exact ⟨0, Nat.zero_le _, rfl⟩
  case round =>
    obtain ⟨k, hk, rfl⟩ := hrel
    by_cases hlt : k < m
    · have hw := row_cell HI.out.free (i := k) (by rw [HM.out]; exact hlt)
      rw [HI.out.zeroWord (i := k) (by rw [HM.out]; exact hlt) (fun f _ hf => HN.out f hf)] at hw
      go_wp2
      go_round
      case rel => exact ⟨k + 1, by omega, by go_num⟩
      case measure => simp [intOf]; omega
    · go_wp2
      go_ret2
      exact ⟨rfl, rfl⟩

set_option maxRecDepth 100000 in
set_option maxHeartbeats 4000000 in
theorem take_some (a g : Nat) (w : World) (S : Nat → Prop) (p : Pool) (h : PoolAt w S a p) (hl : p.lowest = some g) :
    Calls Tryz.prog 19 #[.pointer (some ⟨a, 0, none⟩)] w (TakePost w S a p g) := by
  obtain ⟨hg, hg0, hlow1⟩ := lowest_some hl
  have HP := Lib.hid h
  obtain ⟨⟨C, B, F, wd, pt, hi, hS⟩, hlow, htab, _⟩ := h
  have h0 : w.cell? ⟨a, 0, none⟩ = some (.slice (some ⟨C, 0, none⟩) p.n p.n) := one_block hi.self 0
  have h1 : w.cell? ⟨a, 1, none⟩ = some (.slice (some ⟨B, 0, none⟩) p.n p.n) := one_block hi.self 1
  have h2 : w.cell? ⟨a, 2, none⟩ = some (.slice (some ⟨F, 0, none⟩) ((p.n + 63) / 64) ((p.n + 63) / 64)) := one_block hi.self 2
  have h3 : w.cell? ⟨a, 3, none⟩ = some (.int .i64 (p.left : Int)) := one_block hi.self 3
  have f3 := one_free hi.self 3
  have hn := hi.few.2
  have hle : p.left ≤ p.n := freeTo_le _ _
  have hpos : 1 ≤ p.left := by
    have := freeTo_upd (c := p.cnt) (x := 1) hg
    rw [if_pos hg0, if_neg (by omega)] at this
    unfold Pool.left
    omega
  have hc0 := row_cell hi.counts hg
  have hf0 := one_free hi.counts g
  have hb0 := row_cell hi.ptrs hg
  have hbf := one_free hi.ptrs g
  have hgw : g / 64 < (p.n + 63) / 64 := by omega
  have hw := row_cell hi.free hgw
  have hwf := one_free hi.free (g / 64)
  obtain ⟨n1, n2, n3, n4, n5, n6⟩ := hi.apart
  have z1 := hlow a hS.1
  have z2 := hlow C hS.2.1
  have z3 := hlow B hS.2.2.1
  have z4 := hlow F hS.2.2.2.1
  have hx := (hi.wds _ hgw).1
  have hctz : Lib.ctz 64 (wd (g / 64)) = g % 64 := ctz_bits hx (Nat.mod_lt _ (by decide)) (by
      rw [(hi.wds _ hgw).2 _ (Nat.mod_lt _ (by decide))]
      rw [show 64 * (g / 64) + g % 64 = g from by omega]
      exact decide_eq_true ⟨hg, hg0⟩) (fun j hj => by
      rw [(hi.wds _ hgw).2 _ (by omega)]
      exact decide_eq_false fun e => hlow1 _ (by omega) e.2)
  have hx0 : wd (g / 64) ≠ 0 := fun e => by
    have := (hi.wds _ hgw).2 (g % 64) (Nat.mod_lt _ (by decide))
    rw [show 64 * (g / 64) + g % 64 = g from by omega, decide_eq_true ⟨hg, hg0⟩, e] at this
    simp at this
  have htz := tz_any _ hx hx0 w htab
  rw [hctz] at htz
  have HTZ := Lib.hid htz
  have hx0' : ((wd (g / 64) : Int) == 0) = false := by rw [beq_eq_false_iff_ne]; omega
  have HI := Lib.hid hi
  have HLOW := Lib.hid hlow1
  clear hi hlow htab hctz hx0 htz hlow1 hl
  generalize hm : (p.n + 63) / 64 = m at *
  have HM := Lib.hid hm
  have hm9 : m ≤ 16 := by omega
  clear hm
  go_enter Tryz.func19, Tryz.ntmps19
  go_wp2
  go_loop [14] (fun i => ∃ k : Nat, k ≤ g / 64 ∧ i = .int .i64 k) (fun i => m - (intOf i).toNat)
  case atStart => exact ⟨0, Nat.zero_le _, rfl⟩
  case round =>
    obtain ⟨k, hk, rfl⟩ := hrel
    by_cases hlt : k < g / 64
    · have hw := row_cell HI.out.free (i := k) (by rw [HM.out]; omega)
      rw [HI.out.zeroWord (i := k) (by rw [HM.out]; omega) (fun f _ hf => HLOW.out f (by omega))] at hw
      go_wp2
      go_round
      case rel => exact ⟨k + 1, by omega, by go_num⟩
      case measure => simp [intOf]; omega
    · obtain rfl : k = g / 64 := by omega
      clear hlt hk
      go_wp2_with (go_at_call 72; refine (HTZ.out).mono ?_; rintro e w1 ⟨rfl, rfl⟩)
      rw [show ((g : Int) / 64 * 64 + (g : Int) % 64) = (g : Int) from by omega]
      go_region
      go_wp2_with ((with_reducible refine wpList_zpage rfl rfl ?_))
      go_ret2
      have hm : Mod S w ((((((w.setCell ⟨F, g / 64, none⟩ (.int .u64 (bits .andNot .u64 (wd (g / 64) : Int) (IntKind.u64.wrap (2 ^ (g % 64)))))).setCell ⟨a, 3, none⟩ (.int .i64 ((p.left : Int) - 1))).setCell ⟨C, g, none⟩ (.int .i64 1)).setCell ⟨B, g, none⟩ (.pointer (some ⟨w.heap.size, 0, none⟩))).alloc (.cells zpage 127)).drew) :=
        (((((mod_set hS.2.2.2.1 _ _).trans (Out.refl _ _) (mod_set hS.1 _ _)).trans (Out.refl _ _) (mod_set hS.2.1 _ _)).trans (Out.refl _ _) (mod_set hS.2.2.1 _ _)).trans (Out.refl _ _) (Mod.of ((Below.refl _ _).alloc (Nat.le_refl _) _))).drew
      rw [clr_bit hx (Nat.mod_lt _ (by decide))] at hm ⊢
      have ho : Out S (fun b => S b ∨ b = w.heap.size) w := fun b hb => by
        rcases hb with hb | hb
        · exact .inl hb
        · right; omega
      have hin : PoolIn ((((((w.setCell ⟨F, g / 64, none⟩ (.int .u64 ((wd (g / 64) &&& (18446744073709551615 - 2 ^ (g % 64)) : Nat) : Int))).setCell ⟨a, 3, none⟩ (.int .i64 ((p.left : Int) - 1))).setCell ⟨C, g, none⟩ (.int .i64 1)).setCell ⟨B, g, none⟩ (.pointer (some ⟨w.heap.size, 0, none⟩))).alloc (.cells zpage 127)).drew) (fun b => S b ∨ b = w.heap.size) a (p.takeAt g) := by
        generalize hX : (((w.setCell ⟨F, g / 64, none⟩ (.int .u64 ((wd (g / 64) &&& (18446744073709551615 - 2 ^ (g % 64)) : Nat) : Int))).setCell ⟨a, 3, none⟩ (.int .i64 ((p.left : Int) - 1))).setCell ⟨C, g, none⟩ (.int .i64 1)).setCell ⟨B, g, none⟩ (.pointer (some ⟨w.heap.size, 0, none⟩)) = X
        have hXs : X.heap.size = w.heap.size := by rw [← hX]; simp
        have far : ∀ b, b ≠ a → b ≠ C → b ≠ B → b ≠ F → X.heap[b]? = w.heap[b]? := fun b h1 h2 h3 h4 => by
          rw [← hX, Below.heap_setCell _ _ _ _ h3, Below.heap_setCell _ _ _ _ h2, Below.heap_setCell _ _ _ _ h1, Below.heap_setCell _ _ _ _ h4]
        have hi := HI.out
        refine ⟨C, B, F, _, _, hi.taken (W := (X.alloc (.cells zpage 127)).drew) (nb := w.heap.size) hg hg0 ⟨by omega, by omega, by omega, by omega⟩ (fun f b hf hp he e => ?_) ?_ ?_ ?_ ?_ ?_ (fun b h1 h2 h3 h4 h5 => ?_), .inl hS.1, .inl hS.2.1, .inl hS.2.2.1, .inl hS.2.2.2.1, fun f b hf hp he => ?_⟩
        · have := HP.out.low b (hS.2.2.2.2 f b hf hp he)
          omega
        · refine (Below.heap_alloc _ _ _ (by omega)).trans ?_
          rw [← hX, Below.heap_setCell _ _ _ _ n4, Joins.block_setCell ((Below.heap_setCell _ _ _ _ n1.symm).trans ((Below.heap_setCell _ _ _ _ n5).trans hi.counts)), rowV_set]
          rw [← rowV_upd p.n (fun c : Nat => Value.int .i64 (c : Int)) p.cnt g 1]
          rfl
        · refine (Below.heap_alloc _ _ _ (by omega)).trans ?_
          rw [← hX, Joins.block_setCell ((Below.heap_setCell _ _ _ _ n4.symm).trans ((Below.heap_setCell _ _ _ _ n2.symm).trans ((Below.heap_setCell _ _ _ _ n6).trans hi.ptrs))), rowV_set]
          rw [← rowV_upd p.n (fun o : Option Nat => Value.pointer (o.map fun b => ⟨b, 0, none⟩)) pt g (some w.heap.size)]
          rfl
        · refine (Below.heap_alloc _ _ _ (by omega)).trans ?_
          rw [← hX, Below.heap_setCell _ _ _ _ n6.symm, Below.heap_setCell _ _ _ _ n5.symm, Below.heap_setCell _ _ _ _ n3.symm, Joins.block_setCell hi.free, rowV_set]
          rw [← rowV_upd ((p.n + 63) / 64) (fun c : Nat => Value.int .u64 (c : Int)) wd (g / 64) _]
        · refine (Below.heap_alloc _ _ _ (by omega)).trans ?_
          rw [← hX, Below.heap_setCell _ _ _ _ n2, Below.heap_setCell _ _ _ _ n1, Joins.block_setCell ((Below.heap_setCell _ _ _ _ n3).trans hi.self)]
          rfl
        · have := heap_alloc_new X (.cells zpage 127)
          rw [hXs] at this
          exact this
        · show (X.heap.push _)[b]? = _
          by_cases hb : b < X.heap.size
          · rw [Array.getElem?_push_lt hb, ← Array.getElem?_eq_getElem hb]
            exact far b h1 h2 h3 h4
          · rw [Array.getElem?_eq_none (by simp; omega), Array.getElem?_eq_none (by omega)]
        · by_cases e : f = g
          · subst e
            rw [upd_same] at he
            injection he with he
            exact .inr he.symm
          · rw [upd_ne _ _ e] at he
            simp only [Pool.takeAt, upd_ne _ _ e] at hp
            exact .inl (hS.2.2.2.2 f b hf hp he)
      exact ⟨rfl, _, HP.out.turn hm hin ho (fun b hb => by
        rcases hb with hb | hb
        · exact Nat.lt_of_lt_of_le (HP.out.low b hb) hm.size
        · simp; omega), hm, ho⟩

end Go.Proofs.YtkkmcnngpahfaaaGreatDoor

namespace Go.Proofs.YtkkmcnngpahfaaaGreatDoor
open Go.RowKit
set_option linter.unusedSimpArgs false
set_option linter.unusedVariables false

theorem int_info : (Tryz.prog.info? 3).map (fun i => (i.zero, i.size, i.bytes)) = some (some (.int .i64 0), 1, 8) := by kernel_rfl
theorem u64_info : (Tryz.prog.info? 36).map (fun i => (i.zero, i.size, i.bytes)) = some (some (.int .u64 0), 1, 8) := by kernel_rfl
theorem pfr_info : (Tryz.prog.info? 125).map (fun i => (i.zero, i.size, i.bytes)) = some (some (.pointer none), 1, 8) := by kernel_rfl
theorem make_row (t e : TypeId) (z : Value) (hz1 : z.cells = #[z]) (ht : Tryz.prog.underlying t = some (.slice e)) (hinfo : (Tryz.prog.info? e).map (fun i => (i.zero, i.size, i.bytes)) = some (some z, 1, 8)) (l : Int) (n : Nat) (hl : l = (n : Int)) (hn : n ≤ 1000000) (W : World) :
    (Instr.makeSlice t (.int .i64 l) (.int .i64 l)).run Tryz.prog W = .ok (.slice (some ⟨W.heap.size, 0, none⟩) n n) (W.alloc (.cells (rowV n fun _ => z) e)) := by
  subst hl
  obtain ⟨i0, hi0, hz0, hs, hb⟩ := info_parts hinfo
  have h := run_make (P := Tryz.prog) W t e i0 z ht hi0 hz0 .i64 .i64 (n : Int) (n : Int) (by omega) (by omega) (by rw [hb]; omega) (by omega)
  rw [h, hs, hz1]
  simp [made_rowV]

/-- The four blocks of a new pool, ahead of the loop. -/
structure NewIs (w wx : World) (n a C B F : Nat) (wd : Nat → Nat) : Prop where
  self : wx.heap[a]? = some (.cells #[.slice (some ⟨C, 0, none⟩) n n, .slice (some ⟨B, 0, none⟩) n n, .slice (some ⟨F, 0, none⟩) ((n + 63) / 64) ((n + 63) / 64), .int .i64 (n : Int)] 123 (0, 0))
  counts : wx.heap[C]? = some (.cells (rowV n fun _ => .int .i64 0) 3 (0, 0))
  ptrs : wx.heap[B]? = some (.cells (rowV n fun _ => .pointer none) 125 (0, 0))
  free : wx.heap[F]? = some (.cells (rowV ((n + 63) / 64) fun i => .int .u64 (wd i : Int)) 36 (0, 0))
  apart : a ≠ C ∧ a ≠ B ∧ a ≠ F ∧ C ≠ B ∧ C ≠ F ∧ B ≠ F
  new : w.heap.size ≤ a ∧ w.heap.size ≤ C ∧ w.heap.size ≤ B ∧ w.heap.size ≤ F
  below : Below w.heap.size w wx

theorem hp3 {w : World} {o0 o1 o2 o3 : Obj} : ((((w.alloc o0).alloc o1).alloc o2).alloc o3).drew.heap[w.heap.size + 1 + 1 + 1]? = some o3 := by
  have e : (((w.alloc o0).alloc o1).alloc o2).heap.size = w.heap.size + 1 + 1 + 1 := by simp
  rw [← e]
  exact heap_alloc_new _ _
theorem hp2 {w : World} {o0 o1 o2 o3 : Obj} : ((((w.alloc o0).alloc o1).alloc o2).alloc o3).drew.heap[w.heap.size + 1 + 1]? = some o2 := by
  have e : ((w.alloc o0).alloc o1).heap.size = w.heap.size + 1 + 1 := by simp
  rw [← e]
  exact (Below.heap_alloc _ _ _ (by simp)).trans (heap_alloc_new _ _)
theorem hp1 {w : World} {o0 o1 o2 o3 : Obj} : ((((w.alloc o0).alloc o1).alloc o2).alloc o3).drew.heap[w.heap.size + 1]? = some o1 := by
  have e : (w.alloc o0).heap.size = w.heap.size + 1 := by simp
  rw [← e]
  exact (Below.heap_alloc _ _ _ (by simp)).trans ((Below.heap_alloc _ _ _ (by simp)).trans (heap_alloc_new _ _))
theorem hp0 {w : World} {o0 o1 o2 o3 : Obj} : ((((w.alloc o0).alloc o1).alloc o2).alloc o3).drew.heap[w.heap.size]? = some o0 :=
  (Below.heap_alloc _ _ _ (by simp; try omega)).trans ((Below.heap_alloc _ _ _ (by simp; try omega)).trans ((Below.heap_alloc _ _ _ (by simp; try omega)).trans (heap_alloc_new w o0)))
theorem hpb {w : World} {o0 o1 o2 o3 : Obj} : Below w.heap.size w ((((w.alloc o0).alloc o1).alloc o2).alloc o3).drew :=
  (((((Below.refl _ _).alloc (Nat.le_refl _) _).alloc (by simp) _).alloc (by simp; try omega) _).alloc (by simp; try omega) _).drew
theorem NewIs.bit {w wr : World} {n a C B F k : Nat} {wd : Nat → Nat} (h : NewIs w wr n a C B F wd) (hk : k < n) (hw : ∀ i, i < (n + 63) / 64 → wd i < 18446744073709551616 ∧ ∀ j, j < 64 → (wd i).testBit j = decide (64 * i + j < k)) :
    ∃ wd', NewIs w (wr.setCell ⟨F, k / 64, none⟩ (.int .u64 (bits .or .u64 (wd (k / 64) : Int) (IntKind.u64.wrap (2 ^ (k % 64)))))).drew n a C B F wd' ∧
      ∀ i, i < (n + 63) / 64 → wd' i < 18446744073709551616 ∧ ∀ j, j < 64 → (wd' i).testBit j = decide (64 * i + j < k + 1) := by
  obtain ⟨n1, n2, n3, n4, n5, n6⟩ := h.apart
  have hkw : k / 64 < (n + 63) / 64 := by omega
  have hm : k % 64 < 64 := Nat.mod_lt _ (by decide)
  obtain ⟨hx, hb⟩ := hw _ hkw
  rw [or_bit hx hm]
  refine ⟨upd wd (k / 64) (wd (k / 64) ||| 2 ^ (k % 64)), ⟨?_, ?_, ?_, ?_, h.apart, h.new, ?_⟩, fun i hi => ?_⟩
  · exact (Below.heap_setCell _ _ _ _ n3).trans h.self
  · exact (Below.heap_setCell _ _ _ _ n5).trans h.counts
  · exact (Below.heap_setCell _ _ _ _ n6).trans h.ptrs
  · show (wr.setCell _ _).heap[F]? = _
    rw [Joins.block_setCell h.free, rowV_set, ← rowV_upd ((n + 63) / 64) (fun c : Nat => Value.int .u64 (c : Int)) wd (k / 64) _]
  · exact (h.below.setCell h.new.2.2.2 _).drew
  · by_cases e : i = k / 64
    · subst e
      rw [upd_same]
      refine ⟨or_lt hx hm, fun j hj => ?_⟩
      rw [or_test, hb j hj]
      by_cases e2 : j = k % 64
      · subst e2
        rw [decide_eq_true (rfl : k % 64 = k % 64), Bool.or_true]
        exact (decide_eq_true (by omega)).symm
      · rw [show decide (k % 64 = j) = false from decide_eq_false (fun e' => e2 e'.symm), Bool.or_false]
        exact decide_eq_decide.2 (by omega)
    · rw [upd_ne _ _ e]
      refine ⟨(hw i hi).1, fun j hj => ?_⟩
      rw [(hw i hi).2 j hj]
      exact decide_eq_decide.2 (by omega)
theorem freeTo_all (n : Nat) : freeTo (fun _ => 0) n = n := by
  induction n with
  | zero => rfl
  | succ n ih => unfold freeTo; rw [ih, if_pos rfl]
theorem NewIs.pool {w wr : World} {n a C B F : Nat} {wd : Nat → Nat} (h : NewIs w wr n a C B F wd) (h1 : 1 ≤ n) (h2 : n ≤ 1024) (hw : ∀ i, i < (n + 63) / 64 → wd i < 18446744073709551616 ∧ ∀ j, j < 64 → (wd i).testBit j = decide (64 * i + j < n)) (hdb : DB w) (h0 : 0 < w.heap.size) :
    ∃ S, PoolAt wr S a ⟨n, fun _ => 0, fun _ _ => 0⟩ ∧ ∀ b, S b → w.heap.size ≤ b := by
  have hlt : ∀ b, (∃ o, wr.heap[b]? = some o) → b < wr.heap.size := fun b ⟨o, ho⟩ => (Array.getElem?_eq_some_iff.1 ho).1
  refine ⟨fun b => b = a ∨ b = C ∨ b = B ∨ b = F, ⟨⟨C, B, F, wd, fun _ => none, ⟨?_, h.counts, h.ptrs, h.free, fun i hi => ⟨(hw i hi).1, fun j hj => ?_⟩, fun f hf hc => by simp at hc, fun f g b hf hg hc => by simp at hc, h.apart, fun _ _ => (by show (0 : Nat) < 256; decide), ⟨h1, h2⟩, fun _ => (by show (0 : Nat) < 1000000000000; decide)⟩, .inl rfl, .inr (.inl rfl), .inr (.inr (.inl rfl)), .inr (.inr (.inr rfl)), fun f b hf hc => by simp at hc⟩, fun b hb => ?_, hdb.same (h.below.block 0 h0), fun hb => ?_⟩, fun b hb => ?_⟩
  · rw [h.self]
    show _ = some (Obj.cells #[_, _, _, Value.int .i64 ((freeTo (fun _ => 0) n : Nat) : Int)] _ _)
    rw [freeTo_all]
  · rw [(hw i hi).2 j hj]
    exact decide_eq_decide.2 ⟨fun e => ⟨e, rfl⟩, fun e => e.1⟩
  · rcases hb with rfl | rfl | rfl | rfl
    · exact hlt _ ⟨_, h.self⟩
    · exact hlt _ ⟨_, h.counts⟩
    · exact hlt _ ⟨_, h.ptrs⟩
    · exact hlt _ ⟨_, h.free⟩
  · obtain ⟨m1, m2, m3, m4⟩ := h.new
    omega
  · obtain ⟨m1, m2, m3, m4⟩ := h.new
    omega

set_option maxRecDepth 100000 in
set_option maxHeartbeats 4000000 in
theorem fnew_any (n : Nat) (w : World) (h1 : 1 ≤ n) (h2 : n ≤ 1024) (hdb : DB w) (hw0 : 0 < w.heap.size) :
    Calls Tryz.prog 25 #[.int .i64 (n : Int)] w fun e w' => ∃ a S, e = .returned (.tuple #[.pointer (some ⟨a, 0, none⟩), .int .i64 0]) ∧ PoolAt w' S a ⟨n, fun _ => 0, fun _ _ => 0⟩ ∧ Below w.heap.size w w' ∧ ∀ b, S b → w.heap.size ≤ b := by
  have m1 := make_row 55 3 (.int .i64 0) rfl Tryz.underlying55 int_info (n : Int) n rfl (by omega)
  have m2 := make_row 120 125 (.pointer none) rfl Tryz.underlying120 pfr_info (n : Int) n rfl (by omega)
  have m3 := make_row 121 36 (.int .u64 0) rfl Tryz.underlying121 u64_info (((n : Int) + 63) / 64) ((n + 63) / 64) (by omega) (by omega)
  go_enter Tryz.func25, Tryz.ntmps25
  go_upto_region 3 with (fail)
  go_cut [4] (fun s4 wx => ∃ a C B F, s4 = .pointer (some ⟨a, 0, none⟩) ∧ NewIs w wx n a C B F (fun _ => 0))
  case first =>
    go_region
    all_goals (go_wp2_with fail; go_meet)
    all_goals first
      | exact ⟨_, w.heap.size, w.heap.size + 1, w.heap.size + 1 + 1, rfl, ⟨hp3, hp0, hp1, hp2, (by omega), (by omega), hpb⟩⟩
      | exact ⟨_, w.heap.size, w.heap.size + 1 + 1, w.heap.size + 1, rfl, ⟨hp3, hp0, hp2, hp1, (by omega), (by omega), hpb⟩⟩
      | exact ⟨_, w.heap.size + 1, w.heap.size, w.heap.size + 1 + 1, rfl, ⟨hp3, hp1, hp0, hp2, (by omega), (by omega), hpb⟩⟩
      | exact ⟨_, w.heap.size + 1, w.heap.size + 1 + 1, w.heap.size, rfl, ⟨hp3, hp1, hp2, hp0, (by omega), (by omega), hpb⟩⟩
      | exact ⟨_, w.heap.size + 1 + 1, w.heap.size, w.heap.size + 1, rfl, ⟨hp3, hp2, hp0, hp1, (by omega), (by omega), hpb⟩⟩
      | exact ⟨_, w.heap.size + 1 + 1, w.heap.size + 1, w.heap.size, rfl, ⟨hp3, hp2, hp1, hp0, (by omega), (by omega), hpb⟩⟩
  case rest =>
    obtain ⟨a, C, B, F, rfl, hN⟩ := hcut
    have c2 : wc.cell? ⟨a, 2, none⟩ = some (.slice (some ⟨F, 0, none⟩) ((n + 63) / 64) ((n + 63) / 64)) := one_block hN.self 2
    have HN := Lib.hid hN
    clear hN m1 m2 m3
    go_wp2
    go_loopw [5, 24] (fun v5 i wr => ∃ k : Nat, k ≤ n ∧ i = .int .i64 k ∧ ∃ wd, NewIs w wr n a C B F wd ∧ ∀ i, i < (n + 63) / 64 → wd i < 18446744073709551616 ∧ ∀ j, j < 64 → (wd i).testBit j = decide (64 * i + j < k)) (fun _ i _ => n - (intOf i).toNat)
    case atStart => exact ⟨0, Nat.zero_le _, rfl, _, HN.out, fun i hi => ⟨by decide, fun j hj => by rw [Nat.zero_testBit]; exact (decide_eq_false (by omega)).symm⟩⟩
    case round =>
      obtain ⟨k, hk, rfl, wd, hN, hwd⟩ := hrel
      have c2 : wr.cell? ⟨a, 2, none⟩ = some (.slice (some ⟨F, 0, none⟩) ((n + 63) / 64) ((n + 63) / 64)) := one_block hN.self 2
      obtain ⟨n1, n2, n3, n4, n5, n6⟩ := hN.apart
      have HN := Lib.hid hN
      have HW := Lib.hid hwd
      by_cases hlt : k < n
      · have hkw : k / 64 < (n + 63) / 64 := by omega
        have cF := row_cell hN.free hkw
        have fF := one_free hN.free (k / 64)
        clear hN hwd
        have hfin := HN.out.bit hlt HW.out
        have HFIN := Lib.hid hfin
        clear hfin
        go_wp2
        go_region
        go_wp2
        go_roundw
        case rel => exact ⟨k + 1, by omega, by go_num, HFIN.out⟩
        case measure => simp [intOf]; omega
      · clear hN hwd
        go_wp2
        go_ret2
        obtain rfl : k = n := by omega
        obtain ⟨S, hS1, hS2⟩ := HN.out.pool h1 h2 HW.out hdb hw0
        exact ⟨a, S, rfl, hS1, HN.out.below, hS2⟩

end Go.Proofs.YtkkmcnngpahfaaaGreatDoor
