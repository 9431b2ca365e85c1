/- Frames: how a pool lies in memory; what stays as it was. -/
import Derived.Test.YtmkgdgfbdmjeeaaGreatDoorRows
import Derived.Test.YtmkgdgfbdmjeeaaGreatDoorTbA
import Derived.WalkKit
import Derived.WalkSpells
import Derived.WalkLawsBesides
import Derived.Lib.Hide
import Derived.Lib.SmallJoins
import Derived.Lib.TrailingZeros
namespace Go.Proofs.YtmkgdgfbdmjeeaaGreatDoor
open Go.RowKit
set_option linter.unusedSimpArgs false
set_option linter.unusedVariables false

/-! ### rows of cells -/
def rowV (n : Nat) (g : Nat → Value) : Array Value := ((List.range n).map g).toArray
theorem rowV_size (n : Nat) (g : Nat → Value) : (rowV n g).size = n := by simp [rowV]
theorem rowV_at {n : Nat} {g : Nat → Value} {i : Nat} (h : i < n) : (rowV n g)[i]? = some (g i) := by simp [rowV, h]
theorem rowV_set {n : Nat} {g : Nat → Value} {i : Nat} (v : Value) : (rowV n g).setIfInBounds i v = rowV n (upd g i v) := by
  apply Array.ext_getElem?
  intro j
  rw [Array.getElem?_setIfInBounds]
  by_cases h : j < n
  · rw [rowV_at h]
    by_cases e : i = j
    · subst e
      rw [if_pos rfl, rowV_size, if_pos h, rowV_at h, upd_same]
    · rw [if_neg e, rowV_at h, upd_ne _ _ (fun e' => e e'.symm)]
  · rw [Array.getElem?_eq_none (by rw [rowV_size]; omega), rowV_size, Array.getElem?_eq_none (by rw [rowV_size]; omega)]
    split <;> first | rfl | (split <;> first | rfl | omega)
theorem rowV_congr {n : Nat} {g h : Nat → Value} (e : ∀ i, i < n → g i = h i) : rowV n g = rowV n h := by
  apply Array.ext_getElem?
  intro j
  by_cases hj : j < n
  · rw [rowV_at hj, rowV_at hj, e j hj]
  · rw [Array.getElem?_eq_none (by rw [rowV_size]; omega), Array.getElem?_eq_none (by rw [rowV_size]; omega)]

theorem heap_alloc_new (w : World) (o : Obj) : (w.alloc o).heap[w.heap.size]? = some o := by
  show (w.heap.push o)[w.heap.size]? = some o
  simp

/-! ### what may be turned -/
/-- From w to w' nothing turned but blocks of S and new ones. -/
structure Mod (S : Nat → Prop) (w w' : World) : Prop where
  os : w'.os = w.os
  tape : w'.tape = w.tape
  output : w'.output = w.output
  size : w.heap.size ≤ w'.heap.size
  block : ∀ b, b < w.heap.size → ¬ S b → w'.heap[b]? = w.heap[b]?
theorem Mod.refl (S : Nat → Prop) (w : World) : Mod S w w := ⟨rfl, rfl, rfl, Nat.le_refl _, fun _ _ _ => rfl⟩
theorem Mod.of {S : Nat → Prop} {w w' : World} (h : Below w.heap.size w w') : Mod S w w' := ⟨h.os, h.tape, h.output, h.size, fun b hb _ => h.block b hb⟩
theorem Mod.below {S : Nat → Prop} {w w' : World} {B : Nat} (h : Mod S w w') (hS : ∀ b, S b → B ≤ b) (hB : B ≤ w.heap.size) : Below B w w' := ⟨h.os, h.tape, h.output, h.size, fun b hb => h.block b (by omega) (fun e => by have := hS b e; omega)⟩
/-- S' is S and new blocks. -/
def Out (S S' : Nat → Prop) (w : World) : Prop := ∀ b, S' b → S b ∨ w.heap.size ≤ b
theorem Out.refl (S : Nat → Prop) (w : World) : Out S S w := fun _ h => .inl h
theorem Mod.trans {S S' : Nat → Prop} {w w' w'' : World} (h : Mod S w w') (ho : Out S S' w) (k : Mod S' w' w'') : Mod S w w'' :=
  ⟨k.os.trans h.os, k.tape.trans h.tape, k.output.trans h.output, Nat.le_trans h.size k.size, fun b hb hs => (k.block b (Nat.lt_of_lt_of_le hb h.size) (fun e => by
    rcases ho b e with h1 | h1
    · exact hs h1
    · omega)).trans (h.block b hb hs)⟩
theorem Out.trans {S S' S'' : Nat → Prop} {w w' : World} (h : Out S S' w) (k : Out S' S'' w') (hz : w.heap.size ≤ w'.heap.size) : Out S S'' w := fun b hb => by
  rcases k b hb with h1 | h1
  · exact h b h1
  · right; omega
theorem Mod.sub {S T : Nat → Prop} {w w' : World} (h : Mod S w w') (hs : ∀ b, S b → T b) : Mod T w w' := ⟨h.os, h.tape, h.output, h.size, fun b hb ht => h.block b hb (fun e => ht (hs b e))⟩

/-! ### a pool in memory -/
structure PoolIs (w : World) (a C B F : Nat) (wd : Nat → Nat) (pt : Nat → Option Nat) (p : Pool) : Prop where
  self : w.heap[a]? = some (.cells #[.slice (some ⟨C, 0, none⟩) p.n p.n, .slice (some ⟨B, 0, none⟩) p.n p.n, .slice (some ⟨F, 0, none⟩) ((p.n + 63) / 64) ((p.n + 63) / 64), .int .i64 (p.left : Int)] 127 (0, 0))
  counts : w.heap[C]? = some (.cells (rowV p.n fun f => .int .i64 (p.cnt f : Int)) 3 (0, 0))
  ptrs : w.heap[B]? = some (.cells (rowV p.n fun f => .pointer ((pt f).map fun b => ⟨b, 0, none⟩)) 156 (0, 0))
  free : w.heap[F]? = some (.cells (rowV ((p.n + 63) / 64) fun i => .int .u64 (wd i : Int)) 36 (0, 0))
  wds : ∀ i, i < (p.n + 63) / 64 → wd i < 18446744073709551616 ∧ ∀ j, j < 64 → (wd i).testBit j = decide (64 * i + j < p.n ∧ p.cnt (64 * i + j) = 0)
  bytes : ∀ f, f < p.n → 0 < p.cnt f → ∃ b, pt f = some b ∧ w.heap[b]? = some (.cells (rowV 4096 fun i => .int .u8 (p.dat f i : Int)) 158 (0, 0)) ∧ b ≠ a ∧ b ≠ C ∧ b ≠ B ∧ b ≠ F
  sole : ∀ f g b, f < p.n → g < p.n → 0 < p.cnt f → 0 < p.cnt g → pt f = some b → pt g = some b → f = g
  apart : a ≠ C ∧ a ≠ B ∧ a ≠ F ∧ C ≠ B ∧ C ≠ F ∧ B ≠ F
  small : ∀ f i, p.dat f i < 256
  few : 1 ≤ p.n ∧ p.n ≤ 1024
  cap : ∀ f, p.cnt f < 1000000000000

/-- The table of math/bits lies where start-up laid it. -/
def DB (w : World) : Prop := ∀ j, j < Lib.deBruijn64tab.length → w.cell? ⟨0, j, none⟩ = some (.int .u8 (Lib.deBruijn64tab.getD j 0))
theorem DB.same {w w' : World} (h : DB w) (hb : w'.heap[0]? = w.heap[0]?) : DB w' := fun j hj => by
  rw [← h j hj]
  exact World.cell?_of_block (w := w) hb

/-- The pool's blocks lie in S. -/
def PoolIn (w : World) (S : Nat → Prop) (a : Nat) (p : Pool) : Prop := ∃ C B F wd pt, PoolIs w a C B F wd pt p ∧ S a ∧ S C ∧ S B ∧ S F ∧ ∀ f b, f < p.n → 0 < p.cnt f → pt f = some b → S b

/-- A pool lies at block a; all that it is made of lies in S; the table of math/bits lies apart. -/
structure PoolAt (w : World) (S : Nat → Prop) (a : Nat) (p : Pool) : Prop where
  is : PoolIn w S a p
  low : ∀ b, S b → b < w.heap.size
  tab : DB w
  no0 : ¬ S 0

theorem PoolIs.same {w w' : World} {a C B F : Nat} {wd : Nat → Nat} {pt : Nat → Option Nat} {p : Pool} (h : PoolIs w a C B F wd pt p) (S : Nat → Prop) (hS : S a ∧ S C ∧ S B ∧ S F ∧ ∀ f b, f < p.n → 0 < p.cnt f → pt f = some b → S b)
    (hb : ∀ b, S b → w'.heap[b]? = w.heap[b]?) : PoolIs w' a C B F wd pt p :=
  ⟨(hb a hS.1).trans h.self, (hb C hS.2.1).trans h.counts, (hb B hS.2.2.1).trans h.ptrs, (hb F hS.2.2.2.1).trans h.free, h.wds, fun f hf hc => by
    obtain ⟨b, e, h1, h2⟩ := h.bytes f hf hc
    exact ⟨b, e, (hb b (hS.2.2.2.2 f b hf hc e)).trans h1, h2⟩, h.sole, h.apart, h.small, h.few, h.cap⟩
theorem PoolAt.same {w w' : World} {S : Nat → Prop} {a : Nat} {p : Pool} (h : PoolAt w S a p) (hz : w.heap.size ≤ w'.heap.size) (hb : ∀ b, S b → w'.heap[b]? = w.heap[b]?) (h0 : w'.heap[0]? = w.heap[0]?) : PoolAt w' S a p := by
  obtain ⟨⟨C, B, F, wd, pt, h1, hS⟩, h2, h3, h4⟩ := h
  exact ⟨⟨C, B, F, wd, pt, h1.same S hS hb, hS⟩, fun b hb => Nat.lt_of_lt_of_le (h2 b hb) hz, h3.same h0, h4⟩
theorem PoolAt.pos {w : World} {S : Nat → Prop} {a : Nat} {p : Pool} (h : PoolAt w S a p) : 0 < w.heap.size := by
  obtain ⟨C, B, F, wd, pt, _, ha, _⟩ := h.is
  have := h.low a ha
  omega
/-- New memory alone turns no pool. -/
theorem PoolAt.below {w w' : World} {S : Nat → Prop} {a : Nat} {p : Pool} (h : PoolAt w S a p) (hb : Below w.heap.size w w') : PoolAt w' S a p :=
  h.same hb.size (fun b hs => hb.block b (h.low b hs)) (hb.block 0 h.pos)
/-- What is done to blocks that are not the pool's turns no pool. -/
theorem PoolAt.mod {w w' : World} {S T : Nat → Prop} {a : Nat} {p : Pool} (h : PoolAt w S a p) (hm : Mod T w w') (hST : ∀ b, S b → ¬ T b) (hT : ¬ T 0) : PoolAt w' S a p :=
  h.same hm.size (fun b hs => hm.block b (h.low b hs) (hST b hs)) (hm.block 0 h.pos hT)
/-- The pool's own blocks are turned. -/
theorem PoolAt.turn {w w' : World} {S S' : Nat → Prop} {a : Nat} {p p' : Pool} (h : PoolAt w S a p) (hm : Mod S w w') (hi : PoolIn w' S' a p') (ho : Out S S' w) (hl : ∀ b, S' b → b < w'.heap.size) : PoolAt w' S' a p' :=
  ⟨hi, hl, h.tab.same (hm.block 0 h.pos h.no0), fun e => by
    rcases ho 0 e with h1 | h1
    · exact h.no0 h1
    · have := h.pos; omega⟩
theorem PoolAt.stay {w w' : World} {S : Nat → Prop} {a : Nat} {p p' : Pool} (h : PoolAt w S a p) (hm : Mod S w w') (hi : PoolIn w' S a p') : PoolAt w' S a p' :=
  h.turn hm hi (Out.refl _ _) fun b hb => Nat.lt_of_lt_of_le (h.low b hb) hm.size

end Go.Proofs.YtmkgdgfbdmjeeaaGreatDoor
