/- Tables: a node's word read and written; leaves as words; an address taken apart. Tables: way, gone, empty. Tables: descend, where no leaf lies. Tables: descend, where a leaf lies and what is called there answers false. Tables: at, Find. Tables: Find. Tables: Set. -/
import Derived.Test.YtkkmcnngpahfaaaGreatDoorTwA
import Derived.Test.YtkkmcnngpahfaaaGreatDoorTbA
import Derived.Laws.ShiftsVarLaws
import Derived.Deep.RegionHeld3
import Derived.StillTailTactics
import Derived.Deep.QuietTactic
import Derived.BigQuiet
import Derived.Lib.QuietBelow

namespace Go.Proofs.YtkkmcnngpahfaaaGreatDoor
open Go.RowKit
set_option linter.unusedSimpArgs false
set_option linter.unusedVariables false

/-- A table's own block. -/
def TabSelf (w : World) (t c a root : Nat) : Prop := w.heap[t]? = some (.cells #[.pointer (some ⟨c, 0, none⟩), .pointer (some ⟨a, 0, none⟩), .int .i64 (root : Int)] 129 (0, 0))

set_option maxRecDepth 100000 in
set_option maxHeartbeats 1000000 in
theorem tword_any (t c a root f k : Nat) (w : World) (S : Nat → Prop) (p : Pool) (h : PoolAt w S a p) (ht : TabSelf w t c a root) (hf : f < p.n) (h1 : 1 ≤ p.cnt f) (hk : k < 512) :
    Calls Tryz.prog 77 #[.pointer (some ⟨t, 0, none⟩), .int .i64 (f : Int), .int .i64 (k : Int)] w fun e w' => e = .returned (.int .u64 ((word (p.dat f) k : Nat) : Int)) ∧ Below w.heap.size w w' := by
  have c1 : w.cell? ⟨t, 1, none⟩ = some (.pointer (some ⟨a, 0, none⟩)) := one_block ht 1
  obtain ⟨⟨C, B, F, wd, pt, hi, hS⟩, hlow, _, _⟩ := id h
  have hsm := hi.small f
  clear hi hS hlow ht
  go_enter Tryz.func77, Tryz.ntmps77
  go_wp2_with fail
  refine (load_yes a f (8 * k) 8 w S p h hf h1 (by omega) (by omega)).mono ?_
  rintro e w1 ⟨rfl, hB, hz, hb1⟩
  have HB := Lib.hid hB
  clear hB
  go_wp2_with fail
  refine (get_8 0 8 8 w.heap.size (fun i => p.dat f (8 * k + i)) w1 (by omega) (by omega) HB.out (fun i => hsm _) hz).mono ?_
  rintro e w2 ⟨rfl, hb2⟩
  have hw : leVal (fun i => p.dat f (8 * k + i)) 0 8 = word (p.dat f) k := by
    unfold word
    have key : ∀ n, leVal (fun i => p.dat f (8 * k + i)) 0 n = leVal (p.dat f) (8 * k) n := fun n => by
      induction n with
      | zero => rfl
      | succ n ih => unfold leVal; rw [ih, Nat.zero_add]
    exact key 8
  rw [hw]
  go_wp2_with fail
  go_ret
  exact ⟨rfl, hb1.trans (hb2.mono (Nat.le_of_lt hz))⟩

theorem set_word_eq (d0 : Nat → Nat) (k x : Nat) : laid d0 (laid (fun _ => 0) (fun i => x / 256 ^ i % 256) 0 8) (8 * k) 8 = setWord d0 k x := by
  funext i
  unfold laid setWord
  simp only
  by_cases h : 8 * k ≤ i ∧ i < 8 * k + 8
  · rw [if_pos h, if_pos h, if_pos (by omega), Nat.sub_zero]
  · rw [if_neg h, if_neg h]

set_option maxRecDepth 100000 in
set_option maxHeartbeats 1000000 in
theorem tput_any (t c a root f k x : Nat) (w : World) (S : Nat → Prop) (p : Pool) (h : PoolAt w S a p) (ht : TabSelf w t c a root) (htw : t < w.heap.size) (hf : f < p.n) (h1 : 1 ≤ p.cnt f) (hk : k < 512) (hx : x < 18446744073709551616) :
    Calls Tryz.prog 78 #[.pointer (some ⟨t, 0, none⟩), .int .i64 (f : Int), .int .i64 (k : Int), .int .u64 (x : Int)] w fun e w' => e = .returned (.tuple #[]) ∧ PoolAt w' S a (p.store f (setWord (p.dat f) k x)) ∧ Mod S w w' := by
  have hB0 : Below w.heap.size w (w.alloc (.cells (rowV 8 fun _ => .int .u8 0) 5)) := (Below.refl _ _).alloc (Nat.le_refl _) _
  have hX : BytesAt (w.alloc (.cells (rowV 8 fun _ => .int .u8 0) 5)) w.heap.size 8 (fun _ => 0) := heap_alloc_new w _
  have hmk : ∀ W : World, (Instr.makeSlice 99 (.int .i64 8) (.int .i64 8)).run Tryz.prog W = .ok (.slice (some ⟨W.heap.size, 0, none⟩) 8 8) (W.alloc (.cells (rowV 8 fun _ => .int .u8 0) 5)) := make_bytes 8 (by omega)
  have HT := Lib.hid ht
  have HX := Lib.hid hX
  clear ht hX
  go_enter Tryz.func78, Tryz.ntmps78
  go_wp2_with fail
  refine (set_8 8 8 w.heap.size x _ (by omega) (by omega) (fun _ => 0) HX.out (by simp) hx).mono ?_
  rintro e w1 ⟨g, cap, rfl, ho, hb1⟩
  have hz1 := hb1.size
  simp at hz1
  have hB1 : Below w.heap.size w w1 := hB0.trans (hb1.mono (by simp))
  have hT1 : TabSelf w1 t c a root := (hB1.block t htw).trans HT.out
  have c1 : w1.cell? ⟨t, 1, none⟩ = some (.pointer (some ⟨a, 0, none⟩)) := one_block hT1 1
  have HP1 := Lib.hid (h.below hB1)
  have HO := Lib.hid ho
  clear ho hT1
  go_wp2_with fail
  refine (store_yes a f (8 * k) 8 cap (some ⟨g, 0, none⟩) (laid (fun _ => 0) (fun i => x / 256 ^ i % 256) 0 8) w1 S p HP1.out hf h1 (by omega) (by omega) HO.out.v (fun j => by unfold laid; split; exact Nat.mod_lt _ (by decide); exact (by decide : (0 : Nat) < 256))).mono ?_
  rintro e w2 ⟨rfl, hP2, hm2⟩
  rw [set_word_eq] at hP2
  go_wp2_with fail
  go_end0
  exact ⟨rfl, hP2, (Mod.of hB1).trans (Out.refl _ _) hm2⟩

theorem or_page (f m : Nat) (hm : m < 4096) : f * 4096 ||| m = f * 4096 + m := by
  have := Nat.two_pow_add_eq_or_of_lt (i := 12) (b := m) hm f
  rw [show (2 : Nat) ^ 12 = 4096 from by decide, Nat.mul_comm] at this
  exact this.symm
theorem or_small : ∀ q : Fin 8, (q.val * 2 ||| 1) = q.val * 2 + 1 ∧ ((q.val * 2 + 1) ||| 16) = q.val * 2 + 17 := by decide
theorem or_one (f q : Nat) (hq : q ≤ 7) : (f * 4096 + q * 2) ||| 1 = f * 4096 + q * 2 + 1 := by
  have s1 : q * 2 ||| 1 = q * 2 + 1 := (or_small ⟨q, by omega⟩).1
  have h := or_page f (q * 2) (by omega)
  have h2 := or_page f (q * 2 + 1) (by omega)
  rw [← h, Nat.or_assoc, s1, h2, h]
  omega
theorem or_sixteen (f q : Nat) (hq : q ≤ 7) : (f * 4096 + q * 2 + 1) ||| 16 = f * 4096 + q * 2 + 1 + 16 := by
  have s1 : (q * 2 + 1) ||| 16 = q * 2 + 17 := (or_small ⟨q, by omega⟩).2
  have h := or_page f (q * 2 + 1) (by omega)
  have h2 := or_page f (q * 2 + 17) (by omega)
  rw [Nat.add_assoc, ← h, Nat.or_assoc, s1, h2, h]
  omega
theorem pack_bits (f q : Nat) (hf : f < 1024) (hq : q ≤ 7) : bits .or .u64 (bits .or .u64 ((f : Int) * 4096) ((q : Int) * 2)) 1 = ((f * 4096 + q * 2 + 1 : Nat) : Int) := by
  have e1 : ((f : Int) * 4096) = ((f * 4096 : Nat) : Int) := by simp
  have e2 : ((q : Int) * 2) = ((q * 2 : Nat) : Int) := by simp
  have e3 : (1 : Int) = ((1 : Nat) : Int) := rfl
  rw [e1, e2, bits_or_u64_nat _ _ (by omega) (by omega), e3, or_page _ _ (by omega), bits_or_u64_nat _ _ (by omega) (by omega), or_one f q hq]
theorem pack_bits16 (f q : Nat) (hf : f < 1024) (hq : q ≤ 7) : bits .or .u64 ((f * 4096 + q * 2 + 1 : Nat) : Int) 16 = ((f * 4096 + q * 2 + 1 + 16 : Nat) : Int) := by
  have e3 : (16 : Int) = ((16 : Nat) : Int) := rfl
  rw [e3, bits_or_u64_nat _ _ (by omega) (by omega), or_sixteen f q hq]
theorem and_seven {x : Nat} (hx : x < 18446744073709551616) : bits .and .u64 ((x : Int) / 2) 7 % 256 = ((x / 2 % 8 : Nat) : Int) := by
  have e1 : ((x : Int) / 2) = ((x / 2 : Nat) : Int) := by simp
  have e3 : (7 : Int) = ((7 : Nat) : Int) := rfl
  rw [e1, e3, bits_and_u64_nat _ _ (by omega) (by omega), show (7 : Nat) = 2 ^ 3 - 1 from rfl, Nat.and_two_pow_sub_one_eq_mod]
  omega
theorem and_sixteen {x : Nat} (hx : x < 18446744073709551616) : (bits .and .u64 (x : Int) 16 != 0) = (x / 16 % 2 == 1) := by
  have e3 : (16 : Int) = ((16 : Nat) : Int) := rfl
  have h := and_two_pow_eq_zero (x : Int) 4 (by omega)
  rw [Int.toNat_natCast, show ((2 : Int) ^ 4).toNat = 16 from rfl, show (2 : Int) ^ 4 = 16 from rfl] at h
  rw [e3, bits_and_u64_nat _ _ hx (by omega)]
  by_cases h0 : x &&& 16 = 0
  · have h2 := h.1 h0
    rw [h0, show (x / 16 % 2 == 1) = false from by rw [beq_eq_false_iff_ne]; omega]
    rfl
  · have h2 : (x : Int) / 16 % 2 = 1 := Decidable.by_contra fun e => h0 (h.2 e)
    rw [show (x / 16 % 2 == 1) = true from by rw [beq_iff_eq]; omega, bne_iff_ne]
    omega
set_option maxHeartbeats 1000000 in
theorem tpack_any (l : Leaf) (w : World) (h : l.prot ≤ 7) (hf : l.frame < 1024) :
    Calls Tryz.prog 79 #[.agg #[.int .i64 (l.frame : Int), .int .u8 (l.prot : Int), .bool l.copy]] w fun e w' => e = .returned (.int .u64 (l.pack : Int)) ∧ Below w.heap.size w w' := by
  obtain ⟨f, q, c⟩ := l
  simp only at h hf
  have h1 := pack_bits f q hf h
  have h2 := pack_bits16 f q hf h
  have H1 := Lib.hid h1
  have H2 := Lib.hid h2
  clear h1 h2
  cases c
  · go_enter Tryz.func79, Tryz.ntmps79
    go_wp2
    go_ret
    exact ⟨ret_int (by rw [H1.out]; simp [Leaf.pack]), (Below.refl _ _).alloc (Nat.le_refl _) _⟩
  · go_enter Tryz.func79, Tryz.ntmps79
    go_wp2
    go_ret
    exact ⟨ret_int (by rw [H1.out, H2.out]; simp [Leaf.pack]), (Below.refl _ _).alloc (Nat.le_refl _) _⟩

set_option maxHeartbeats 1000000 in
theorem tunpack_any (x : Nat) (w : World) (hx : x < 18446744073709551616) :
    Calls Tryz.prog 82 #[.int .u64 (x : Int)] w fun e w' => e = .returned (.agg #[.int .i64 ((unpack x).frame : Int), .int .u8 ((unpack x).prot : Int), .bool (unpack x).copy]) ∧ Below w.heap.size w w' := by
  go_enter Tryz.func82, Tryz.ntmps82
  go_wp2
  rw [and_seven hx, and_sixteen hx]
  exact bodyPost_ret (v := .agg #[.int .i64 ((unpack x).frame : Int), .int .u8 ((unpack x).prot : Int), .bool (unpack x).copy]) (by simp [results, Tryz.results82, go_sem, unpack]) rfl ⟨rfl, (Below.refl _ _).alloc (Nat.le_refl _) _⟩

end Go.Proofs.YtkkmcnngpahfaaaGreatDoor

namespace Go.Proofs.YtkkmcnngpahfaaaGreatDoor
open Go.RowKit
set_option linter.unusedSimpArgs false
set_option linter.unusedVariables false

def wayV (pg k j : Nat) : Value := .int .i64 (if j < k then ((num pg (4 - j) : Nat) : Int) else 0)
/-- A way as a value. -/
def wayA (pg : Nat) : Value := .agg #[.int .i64 ((num pg 4 : Nat) : Int), .int .i64 ((num pg 3 : Nat) : Int), .int .i64 ((num pg 2 : Nat) : Int), .int .i64 ((num pg 1 : Nat) : Int)]
theorem way_num (a k : Nat) (h : 1 ≤ k) : ((a : Int) / (2 : Int) ^ (12 + 9 * (k - 1)) % 512) = ((num (a / 4096) k : Nat) : Int) := by
  unfold num
  have e : (2 : Nat) ^ (12 + 9 * (k - 1)) = 4096 * 512 ^ (k - 1) := by
    rw [Nat.pow_add, Nat.pow_mul]
  rw [Nat.div_div_eq_div_mul, ← e]
  simp

set_option maxRecDepth 100000 in
set_option maxHeartbeats 2000000 in
theorem way_any (a : Nat) (w : World) (ha : a < 18446744073709551616) :
    Calls Tryz.prog 74 #[.int .u64 (a : Int)] w fun e w' => e = .returned (wayA (a / 4096)) ∧ Below w.heap.size w w' := by
  have e4 : ((a : Int) / 549755813888 % 512) = ((num (a / 4096) 4 : Nat) : Int) := way_num a 4 (by omega)
  have e3 : ((a : Int) / 1073741824 % 512) = ((num (a / 4096) 3 : Nat) : Int) := way_num a 3 (by omega)
  have e2 : ((a : Int) / 2097152 % 512) = ((num (a / 4096) 2 : Nat) : Int) := way_num a 2 (by omega)
  have e1 : ((a : Int) / 4096 % 512) = ((num (a / 4096) 1 : Nat) : Int) := way_num a 1 (by omega)
  have E4 := Lib.hid e4
  have E3 := Lib.hid e3
  have E2 := Lib.hid e2
  have E1 := Lib.hid e1
  have hx0 := heap_alloc_new w (.cells #[wayV (a / 4096) 0 0, wayV (a / 4096) 0 1, wayV (a / 4096) 0 2, wayV (a / 4096) 0 3] 131)
  have HX0 := Lib.hid hx0
  clear e1 e2 e3 e4 hx0
  go_enter Tryz.func74, Tryz.ntmps74
  go_wp2_with fail
  go_loopw [3, 4] (fun _ i wr => ∃ k : Nat, k ≤ 4 ∧ i = .int .i64 k ∧ wr.heap[w.heap.size]? = some (.cells #[wayV (a / 4096) k 0, wayV (a / 4096) k 1, wayV (a / 4096) k 2, wayV (a / 4096) k 3] 131 (0, 0)) ∧ Below w.heap.size w wr) (fun _ i _ => 4 - (intOf i).toNat)
  case atStart => exact ⟨0, Nat.zero_le _, rfl, HX0.out, (Below.refl _ _).alloc (Nat.le_refl _) _⟩
  case round =>
    obtain ⟨k, hk, rfl, hX, hB⟩ := hrel
    have hlt : w.heap.size < wr.heap.size := (Array.getElem?_eq_some_iff.1 hX).1
    have f0 := one_free hX 0
    have f1 := one_free hX 1
    have f2 := one_free hX 2
    have f3 := one_free hX 3
    have HX := Lib.hid hX
    rcases (show k = 0 ∨ k = 1 ∨ k = 2 ∨ k = 3 ∨ k = 4 by omega) with rfl | rfl | rfl | rfl | rfl
    · have c0 : wr.cell? ⟨w.heap.size, 0, none⟩ = some (.int .i64 0) := one_block hX 0
      clear hX
      go_wp2
      go_roundw
      case rel =>
        refine ⟨1, by omega, by go_num, ?_, hB.setCell (Nat.le_refl _) _⟩
        rw [Joins.block_setCell HX.out, E4.out]
        rfl
      case measure => simp [intOf]
    · have c0 : wr.cell? ⟨w.heap.size, 1, none⟩ = some (.int .i64 0) := one_block hX 1
      clear hX
      go_wp2
      go_roundw
      case rel =>
        refine ⟨2, by omega, by go_num, ?_, hB.setCell (Nat.le_refl _) _⟩
        rw [Joins.block_setCell HX.out, E3.out]
        rfl
      case measure => simp [intOf]
    · have c0 : wr.cell? ⟨w.heap.size, 2, none⟩ = some (.int .i64 0) := one_block hX 2
      clear hX
      go_wp2
      go_roundw
      case rel =>
        refine ⟨3, by omega, by go_num, ?_, hB.setCell (Nat.le_refl _) _⟩
        rw [Joins.block_setCell HX.out, E2.out]
        rfl
      case measure => simp [intOf]
    · have c0 : wr.cell? ⟨w.heap.size, 3, none⟩ = some (.int .i64 0) := one_block hX 3
      clear hX
      go_wp2
      go_roundw
      case rel =>
        refine ⟨4, by omega, by go_num, ?_, hB.setCell (Nat.le_refl _) _⟩
        rw [Joins.block_setCell HX.out, E1.out]
        rfl
      case measure => simp [intOf]
    · have c0 : wr.cell? ⟨w.heap.size, 0, none⟩ = some (.int .i64 ((num (a / 4096) 4 : Nat) : Int)) := one_block hX 0
      have c1 : wr.cell? ⟨w.heap.size, 1, none⟩ = some (.int .i64 ((num (a / 4096) 3 : Nat) : Int)) := one_block hX 1
      have c2 : wr.cell? ⟨w.heap.size, 2, none⟩ = some (.int .i64 ((num (a / 4096) 2 : Nat) : Int)) := one_block hX 2
      have c3 : wr.cell? ⟨w.heap.size, 3, none⟩ = some (.int .i64 ((num (a / 4096) 1 : Nat) : Int)) := one_block hX 3
      clear hX
      go_wp2
      exact bodyPost_ret (v := wayA (a / 4096)) (by simp [results, Tryz.results74, go_sem, hlt, f0, f1, f2, f3, c0, c1, c2, c3, wayA]) rfl ⟨rfl, (((hB.setCell (Nat.le_refl _) _).setCell (Nat.le_refl _) _).setCell (Nat.le_refl _) _).setCell (Nat.le_refl _) _⟩

set_option maxHeartbeats 400000 in
theorem tgone_any (t c a root : Nat) (w : World) (ht : TabSelf w t c a root) :
    Calls Tryz.prog 73 #[.pointer (some ⟨t, 0, none⟩)] w fun e w' => e = .returned (.bool false) ∧ w = w' := by
  have c1 : w.cell? ⟨t, 1, none⟩ = some (.pointer (some ⟨a, 0, none⟩)) := one_block ht 1
  clear ht
  go_enter Tryz.func73, Tryz.ntmps73
  go_wp2
  go_ret
  exact ⟨rfl, rfl⟩
theorem tgone_nil (w : World) : Calls Tryz.prog 73 #[.pointer none] w fun e w' => e = .returned (.bool true) ∧ w = w' := by
  go_enter Tryz.func73, Tryz.ntmps73
  go_wp2
  go_ret
  exact ⟨rfl, rfl⟩
theorem tgone_freed (t : Nat) (w : World) (c1 : w.cell? ⟨t, 1, none⟩ = some (.pointer none)) :
    Calls Tryz.prog 73 #[.pointer (some ⟨t, 0, none⟩)] w fun e w' => e = .returned (.bool true) ∧ w = w' := by
  go_enter Tryz.func73, Tryz.ntmps73
  go_wp2
  go_ret
  exact ⟨rfl, rfl⟩

def allZero (d : Nat → Nat) (n : Nat) : Bool := decide (∀ i, i < n → d i = 0)
set_option maxRecDepth 100000 in
set_option maxHeartbeats 1000000 in
theorem tempty_any (t c a root f : Nat) (w : World) (S : Nat → Prop) (p : Pool) (h : PoolAt w S a p) (ht : TabSelf w t c a root) (hf : f < p.n) (h1 : 1 ≤ p.cnt f) :
    Calls Tryz.prog 119 #[.pointer (some ⟨t, 0, none⟩), .int .i64 (f : Int)] w fun e w' => e = .returned (.bool (allZero (p.dat f) 4096)) ∧ Below w.heap.size w w' := by
  have c1 : w.cell? ⟨t, 1, none⟩ = some (.pointer (some ⟨a, 0, none⟩)) := one_block ht 1
  clear ht
  go_enter Tryz.func119, Tryz.ntmps119
  go_wp2_with fail
  refine (load_yes a f 0 4096 w S p h hf h1 (by omega) (by omega)).mono ?_
  rintro e w1 ⟨rfl, hB, hz, hb1⟩
  have HB := Lib.hid hB
  clear hB
  go_wp2_with fail
  go_loop [20] (fun i => ∃ k : Nat, k ≤ 4096 ∧ i = .int .i64 k ∧ ∀ i, i < k → p.dat f i = 0) (fun i => 4096 - (intOf i).toNat)
  case atStart => exact ⟨0, Nat.zero_le _, rfl, fun i hi => by omega⟩
  case round =>
    obtain ⟨k, hk, rfl, hz0⟩ := hrel
    have HZ := Lib.hid hz0
    clear hz0
    by_cases hlt : k < 4096
    · have hc : w1.cell? ⟨w.heap.size, k, none⟩ = some (.int .u8 ((p.dat f k : Nat) : Int)) := by
        have h9 := row_cell HB.out hlt
        simpa using h9
      by_cases hd : p.dat f k = 0
      · rw [hd] at hc
        have HD := Lib.hid hd
        clear hd
        go_wp2
        go_round
        case rel => exact ⟨k + 1, by omega, by go_num, fun i hi => by
          rcases Nat.lt_or_ge i k with h2 | h2
          · exact HZ.out i h2
          · have : i = k := by omega
            rw [this]; exact HD.out⟩
        case measure => simp [intOf]; omega
      · have hne : (((p.dat f k : Nat) : Int) != 0) = true := by rw [bne_iff_ne]; omega
        have HD := Lib.hid hd
        clear hd
        go_wp2
        go_ret
        exact ⟨ret_bool (decide_eq_false fun e => HD.out (e k hlt)).symm, hb1⟩
    · obtain rfl : k = 4096 := by omega
      go_wp2
      go_ret
      exact ⟨ret_bool (decide_eq_true HZ.out).symm, hb1⟩

end Go.Proofs.YtkkmcnngpahfaaaGreatDoor

namespace Go.Proofs.YtkkmcnngpahfaaaGreatDoor
open Go.RowKit
set_option linter.unusedSimpArgs false
set_option linter.unusedVariables false

/-- On a page's way each node is a taken frame, and its word says what the tree says. -/
structure Way (p : Pool) (T : Tab) (pg : Nat) : Prop where
  node : ∀ lv f, 1 ≤ lv → lv ≤ 4 → T.nd lv (part pg lv) = some f → f < p.n ∧ 1 ≤ p.cnt f ∧ word (p.dat f) (num pg lv) = T.on pg lv
  few : p.n ≤ 1024
  prot : ∀ l, T.lf pg = some l → l.prot ≤ 7 ∧ l.frame < p.n
theorem Tab.Good.way {p : Pool} {t : Tab} {rest : Nat → Nat} {pg0 lv0 : Nat} (h : t.Good p rest pg0 lv0) (pg : Nat) : Way p t pg :=
  ⟨fun lv f h1 h4 hf => ⟨(h.node hf).1, (h.node hf).2, (h.but.words lv _ f hf).2 _ (num_lt _ _)⟩, h.but.few, fun l hl => (h.but.leaf pg l hl).2⟩
theorem and_one {x : Nat} (hx : x < 18446744073709551616) : bits .and .u64 (x : Int) 1 = ((x % 2 : Nat) : Int) := by
  have e3 : (1 : Int) = ((1 : Nat) : Int) := rfl
  rw [e3, bits_and_u64_nat _ _ hx (by omega), Nat.and_one_is_mod]
theorem and_odd {x : Nat} (hx : x < 18446744073709551616) (h : x % 2 = 1) : (bits .and .u64 (x : Int) 1 == 0) = false := by
  rw [and_one hx, h]; rfl
theorem and_none : (bits .and .u64 0 1 == 0) = true := by decide +kernel

/-! ### down a page's way -/
def PathAt (w : World) (b pg : Nat) : Prop := w.heap[b]? = some (.cells #[.int .i64 ((num pg 4 : Nat) : Int), .int .i64 ((num pg 3 : Nat) : Int), .int .i64 ((num pg 2 : Nat) : Int), .int .i64 ((num pg 1 : Nat) : Int)] 131 (0, 0))
theorem PathAt.cells {w : World} {b pg : Nat} (h : PathAt w b pg) : w.cell? ⟨b, 0, none⟩ = some (.int .i64 ((num pg 4 : Nat) : Int)) ∧ w.cell? ⟨b, 1, none⟩ = some (.int .i64 ((num pg 3 : Nat) : Int)) ∧ w.cell? ⟨b, 2, none⟩ = some (.int .i64 ((num pg 2 : Nat) : Int)) ∧ w.cell? ⟨b, 3, none⟩ = some (.int .i64 ((num pg 1 : Nat) : Int)) := ⟨one_block h 0, one_block h 1, one_block h 2, one_block h 3⟩
theorem path_start {w : World} {S : Nat → Prop} {p : Pool} {t c a root : Nat} (pg : Nat) (h : PoolAt w S a p) (ht : TabSelf w t c a root) (htw : t < w.heap.size) : ∃ w0, w0 = w.alloc (.cells #[.int .i64 ((num pg 4 : Nat) : Int), .int .i64 ((num pg 3 : Nat) : Int), .int .i64 ((num pg 2 : Nat) : Int), .int .i64 ((num pg 1 : Nat) : Int)] 131) ∧ Below w.heap.size w w0 ∧ PoolAt w0 S a p ∧ TabSelf w0 t c a root ∧ PathAt w0 w.heap.size pg ∧ w.heap.size < w0.heap.size ∧ t < w0.heap.size := by
  have hB0 : Below w.heap.size w (w.alloc (.cells #[.int .i64 ((num pg 4 : Nat) : Int), .int .i64 ((num pg 3 : Nat) : Int), .int .i64 ((num pg 2 : Nat) : Int), .int .i64 ((num pg 1 : Nat) : Int)] 131)) := (Below.refl _ _).alloc (Nat.le_refl _) _
  exact ⟨_, rfl, hB0, h.below hB0, (hB0.block t htw).trans ht, heap_alloc_new w _, by simp, by simp; omega⟩
/-- Which levels stand one above the other, and how deep they are. -/
def DescCase (LV LW : Nat) (D E : Int) : Prop := (LV = 2 ∧ LW = 1 ∧ D = 2 ∧ E = 3) ∨ (LV = 3 ∧ LW = 2 ∧ D = 1 ∧ E = 2) ∨ (LV = 4 ∧ LW = 3 ∧ D = 0 ∧ E = 1)
theorem DescCase.nums {LV LW : Nat} {D E : Int} (h : DescCase LV LW D E) : LV = LW + 1 ∧ 1 ≤ LW ∧ LV ≤ 4 := by
  rcases h with ⟨rfl, rfl, _⟩ | ⟨rfl, rfl, _⟩ | ⟨rfl, rfl, _⟩ <;> decide
theorem on_some {T : Tab} {p : Pool} {pg LV LW f g : Nat} {D E : Int} (hc : DescCase LV LW D E) (h : word (p.dat f) (num pg LV) = T.on pg LV) (hg : T.nd LW (part pg LW) = some g) : word (p.dat f) (num pg LV) = g * 4096 + 1 := by
  obtain ⟨rfl, h1, h2⟩ := hc.nums
  rw [h, Tab.on_more _ _ _ (by omega)]
  show (match T.nd LW (part pg LW) with | some f => f * 4096 + 1 | none => 0) = _
  rw [hg]
theorem on_none {T : Tab} {p : Pool} {pg LV LW f : Nat} {D E : Int} (hc : DescCase LV LW D E) (h : word (p.dat f) (num pg LV) = T.on pg LV) (hg : T.nd LW (part pg LW) = none) : word (p.dat f) (num pg LV) = 0 := by
  obtain ⟨rfl, h1, h2⟩ := hc.nums
  rw [h, Tab.on_more _ _ _ (by omega)]
  show (match T.nd LW (part pg LW) with | some f => f * 4096 + 1 | none => 0) = _
  rw [hg]
def DescNo (LV : Nat) (D : Int) : Prop := ∀ (t c a root f pg : Nat) (V : Value) (w : World) (S : Nat → Prop) (p : Pool) (T : Tab), PoolAt w S a p → TabSelf w t c a root → t < w.heap.size → Way p T pg → T.lf pg = none → T.nd LV (part pg LV) = some f →
  Calls Tryz.prog 75 #[.pointer (some ⟨t, 0, none⟩), .int .i64 (f : Int), wayA pg, .int .i64 D, V] w fun e w' => e = .returned (.tuple #[.bool false, .bool false]) ∧ Below w.heap.size w w'
set_option maxRecDepth 100000 in
set_option maxHeartbeats 1000000 in
theorem desc_no1 : DescNo 1 3 := by
  intro t c a root f pg V w S p T h ht htw hw hno hf
  obtain ⟨f1, f2, f3⟩ := hw.node 1 f (by omega) (by omega) hf
  obtain ⟨w0, hw0, hB0, hP0, hT0, hX0, hs0', htw0⟩ := path_start pg h ht htw
  obtain ⟨c0, c1, c2, c3⟩ := hX0.cells
  have e0 : word (p.dat f) (num pg 1) = 0 := by rw [f3, Tab.on_one, hno]
  have E0 := Lib.hid e0
  have HW0 := Lib.hid hw0
  have hz := and_none
  clear f3 hf hw0 h ht e0 hno
  unfold wayA
  go_enter Tryz.func75, Tryz.ntmps75
  go_upto_region 1 with (fail)
  rw [← HW0.out]
  go_wp2_with fail
  refine (tword_any t c a root f _ w0 S p hP0 hT0 f1 f2 (num_lt pg _)).mono ?_
  rintro e w1 ⟨rfl, hb1⟩
  rw [E0.out]
  go_wp2_with fail
  go_ret2
  exact ⟨rfl, hB0.trans (hb1.mono (Nat.le_of_lt hs0'))⟩
set_option maxRecDepth 100000 in
set_option maxHeartbeats 4000000 in
theorem desc_noS {LV LW : Nat} {D E : Int} (hc : DescCase LV LW D E) (ih : DescNo LW E) : DescNo LV D := by
  intro t c a root f pg V w S p T h ht htw hw hno hf
  obtain ⟨f1, f2, f3⟩ := hw.node LV f (by have := hc.nums; omega) (by have := hc.nums; omega) hf
  obtain ⟨w0, hw0, hB0, hP0, hT0, hX0, hs0', htw0⟩ := path_start pg h ht htw
  obtain ⟨c0, c1, c2, c3⟩ := hX0.cells
  have HW0 := Lib.hid hw0
  have hz := and_none
  have IH := Lib.hid ih
  cases hg : T.nd LW (part pg LW) with
  | none =>
    have E0 := Lib.hid (on_none hc f3 hg)
    clear f3 hf hw0 h ht hno hg ih IH
    unfold wayA
    rcases hc with ⟨rfl, rfl, rfl, rfl⟩ | ⟨rfl, rfl, rfl, rfl⟩ | ⟨rfl, rfl, rfl, rfl⟩ <;> (
      go_enter Tryz.func75, Tryz.ntmps75
      go_upto_region 1 with (fail)
      rw [← HW0.out]
      go_wp2_with fail
      refine (tword_any t c a root f _ w0 S p hP0 hT0 f1 f2 (num_lt pg _)).mono ?_
      rintro e w1 ⟨rfl, hb1⟩
      rw [E0.out]
      go_wp2_with fail
      go_ret2
      exact ⟨rfl, hB0.trans (hb1.mono (Nat.le_of_lt hs0'))⟩)
  | some g =>
    obtain ⟨g1, g2, _⟩ := hw.node LW g (by have := hc.nums; omega) (by have := hc.nums; omega) hg
    have hfew := hw.few
    obtain ⟨x, hx⟩ : ∃ x, x = g * 4096 + 1 := ⟨_, rfl⟩
    have e0 := on_some hc f3 hg
    rw [← hx] at e0
    have E0 := Lib.hid e0
    have hx9 : x < 18446744073709551616 := by omega
    have hodd := and_odd hx9 (by omega)
    have HSH := Lib.hid (show ((x : Int) / 4096) = (g : Int) by omega)
    have HG := Lib.hid hg
    have HN := Lib.hid hno
    clear f3 hf hw0 h ht hno hg ih e0 hx
    unfold wayA
    rcases hc with ⟨rfl, rfl, rfl, rfl⟩ | ⟨rfl, rfl, rfl, rfl⟩ | ⟨rfl, rfl, rfl, rfl⟩ <;> (
      go_enter Tryz.func75, Tryz.ntmps75
      go_upto_region 1 with (fail)
      rw [← HW0.out]
      go_wp2_with fail
      refine (tword_any t c a root f _ w0 S p hP0 hT0 f1 f2 (num_lt pg _)).mono ?_
      rintro e w1 ⟨rfl, hb1⟩
      rw [E0.out]
      have hz1 := hb1.size
      obtain ⟨d0, d1, d2, d3⟩ := PathAt.cells ((hb1.block _ hs0').trans hX0)
      have hT1 : TabSelf w1 t c a root := (hb1.block t htw0).trans hT0
      clear c0 c1 c2 c3
      go_wp2_with fail
      rw [HSH.out]
      refine (IH.out t c a root g pg V w1 S p T (hP0.below hb1) hT1 (by omega) hw HN.out HG.out).mono ?_
      rintro e w2 ⟨rfl, hb2⟩
      go_wp2_with fail
      go_ret2
      exact ⟨rfl, hB0.trans ((hb1.trans (hb2.mono hz1)).mono (Nat.le_of_lt hs0'))⟩)
theorem descend_none4 : DescNo 4 0 := desc_noS (.inr (.inr ⟨rfl, rfl, rfl, rfl⟩)) (desc_noS (.inr (.inl ⟨rfl, rfl, rfl, rfl⟩)) (desc_noS (.inl ⟨rfl, rfl, rfl, rfl⟩) desc_no1))

end Go.Proofs.YtkkmcnngpahfaaaGreatDoor

namespace Go.Proofs.YtkkmcnngpahfaaaGreatDoor
open Go.RowKit
set_option linter.unusedSimpArgs false
set_option linter.unusedVariables false

/-- The functions that are handed down, and what they have captured. -/
def DescKind (bt bl : Nat) (f : FuncId) (C : Array Value) : Prop := (f = 76 ∧ C = #[]) ∨ (f = 81 ∧ C = #[.pointer (some ⟨bt, 0, none⟩), .pointer (some ⟨bl, 0, none⟩)]) ∨ (f = 90 ∧ C = #[.pointer (some ⟨bt, 0, none⟩), .pointer (some ⟨bl, 0, none⟩)])
def DescYes (fid : FuncId) (C : Array Value) (LV : Nat) (D : Int) : Prop := ∀ (t c a root f pg : Nat) (R : World → World → Prop) (w : World) (S : Nat → Prop) (p : Pool) (T : Tab), PoolAt w S a p → TabSelf w t c a root → t < w.heap.size → Way p T pg → (∀ m, 1 ≤ m → m ≤ 4 → (T.nd m (part pg m)).isSome = true) → ∀ (l : Leaf) (q1 : Nat), T.lf pg = some l → T.nd 1 (part pg 1) = some q1 →
  (∀ w1, Below w.heap.size w w1 → Calls Tryz.prog fid (#[.int .i64 (q1 : Int), .int .i64 ((num pg 1 : Nat) : Int)] ++ C) w1 fun e w2 => e = .returned (.bool false) ∧ R w1 w2) → T.nd LV (part pg LV) = some f →
  Calls Tryz.prog 75 #[.pointer (some ⟨t, 0, none⟩), .int .i64 (f : Int), wayA pg, .int .i64 D, .func (.func fid) #[] C] w fun e w' => e = .returned (.tuple #[.bool true, .bool false]) ∧ ∃ w1, Below w.heap.size w w1 ∧ R w1 w'
set_option maxRecDepth 100000 in
set_option maxHeartbeats 4000000 in
theorem desc_yes1 {bt bl : Nat} {fid : FuncId} {C : Array Value} (hk : DescKind bt bl fid C) : DescYes fid C 1 3 := by
  intro t c a root f pg R w S p T h ht htw hw hups l q1 hlf hf1 hcl hf
  obtain ⟨f1, f2, f3⟩ := hw.node 1 f (by omega) (by omega) hf
  obtain ⟨w0, hw0, hB0, hP0, hT0, hX0, hs0', htw0⟩ := path_start pg h ht htw
  obtain ⟨c0, c1, c2, c3⟩ := hX0.cells
  obtain rfl : f = q1 := by rw [hf1] at hf; injection hf with e9; exact e9.symm
  obtain ⟨x, hx⟩ : ∃ x, x = l.pack := ⟨_, rfl⟩
  have e0 : word (p.dat f) (num pg 1) = x := by rw [f3, Tab.on_one, hlf, hx]
  have E0 := Lib.hid e0
  have hl7 := hw.prot l hlf
  have hfew := hw.few
  have hx9 : x < 18446744073709551616 := by rw [hx]; have := pack_lt l hl7.1 (by omega); omega
  have hodd := and_odd hx9 (by rw [hx]; exact pack_odd l)
  have HW0 := Lib.hid hw0
  have HCL := Lib.hid hcl
  clear f3 hf hw0 h ht e0 hx hlf hf1 hcl hups
  unfold wayA
  rcases hk with ⟨rfl, rfl⟩ | ⟨rfl, rfl⟩ | ⟨rfl, rfl⟩ <;> (
    go_enter Tryz.func75, Tryz.ntmps75
    go_upto_region 1 with (fail)
    rw [← HW0.out]
    go_wp2_with fail
    refine (tword_any t c a root f _ w0 S p hP0 hT0 f1 f2 (num_lt pg _)).mono ?_
    rintro e w1 ⟨rfl, hb1⟩
    rw [E0.out]
    go_wp2_with fail
    refine (HCL.out w1 (hB0.trans (hb1.mono (Nat.le_of_lt hs0')))).mono ?_
    rintro e w2 ⟨rfl, hR⟩
    go_wp2_with fail
    go_ret2
    exact ⟨rfl, w1, hB0.trans (hb1.mono (Nat.le_of_lt hs0')), hR⟩)
set_option maxRecDepth 100000 in
set_option maxHeartbeats 16000000 in
theorem desc_yesS {bt bl : Nat} {fid : FuncId} {C : Array Value} (hk : DescKind bt bl fid C) {LV LW : Nat} {D E : Int} (hc : DescCase LV LW D E) (ih : DescYes fid C LW E) : DescYes fid C LV D := by
  intro t c a root f pg R w S p T h ht htw hw hups l q1 hlf hf1 hcl hf
  obtain ⟨f1, f2, f3⟩ := hw.node LV f (by have := hc.nums; omega) (by have := hc.nums; omega) hf
  obtain ⟨w0, hw0, hB0, hP0, hT0, hX0, hs0', htw0⟩ := path_start pg h ht htw
  obtain ⟨c0, c1, c2, c3⟩ := hX0.cells
  have HW0 := Lib.hid hw0
  have IH := Lib.hid ih
  obtain ⟨g, hg⟩ : ∃ g, T.nd LW (part pg LW) = some g := isSome_of (hups LW (by have := hc.nums; omega) (by have := hc.nums; omega))
  obtain ⟨g1, g2, _⟩ := hw.node LW g (by have := hc.nums; omega) (by have := hc.nums; omega) hg
  have hfew := hw.few
  obtain ⟨x, hx⟩ : ∃ x, x = g * 4096 + 1 := ⟨_, rfl⟩
  have e0 := on_some hc f3 hg
  rw [← hx] at e0
  have E0 := Lib.hid e0
  have hx9 : x < 18446744073709551616 := by omega
  have hodd := and_odd hx9 (by omega)
  have HSH := Lib.hid (show ((x : Int) / 4096) = (g : Int) by omega)
  have HG := Lib.hid hg
  have HU := Lib.hid hups
  have HL := Lib.hid hlf
  have HF1 := Lib.hid hf1
  have HCL := Lib.hid hcl
  clear f3 hf hw0 h ht hg ih e0 hx hups hlf hf1 hcl
  unfold wayA
  rcases hk with ⟨rfl, rfl⟩ | ⟨rfl, rfl⟩ | ⟨rfl, rfl⟩ <;> rcases hc with ⟨rfl, rfl, rfl, rfl⟩ | ⟨rfl, rfl, rfl, rfl⟩ | ⟨rfl, rfl, rfl, rfl⟩ <;> (
    go_enter Tryz.func75, Tryz.ntmps75
    go_upto_region 1 with (fail)
    rw [← HW0.out]
    go_wp2_with fail
    refine (tword_any t c a root f _ w0 S p hP0 hT0 f1 f2 (num_lt pg _)).mono ?_
    rintro e w1 ⟨rfl, hb1⟩
    rw [E0.out]
    have hz1 := hb1.size
    obtain ⟨d0, d1, d2, d3⟩ := PathAt.cells ((hb1.block _ hs0').trans hX0)
    have hT1 : TabSelf w1 t c a root := (hb1.block t htw0).trans hT0
    clear c0 c1 c2 c3
    go_wp2_with fail
    rw [HSH.out]
    refine (IH.out t c a root g pg R w1 S p T (hP0.below hb1) hT1 (by omega) hw HU.out l q1 HL.out HF1.out (fun w5 hw5 => HCL.out w5 (hB0.trans ((hb1.trans (hw5.mono hz1)).mono (Nat.le_of_lt hs0')))) HG.out).mono ?_
    rintro e w2 ⟨rfl, w5, hb2, hR⟩
    go_wp2_with fail
    go_ret2
    exact ⟨rfl, w5, hB0.trans ((hb1.trans (hb2.mono hz1)).mono (Nat.le_of_lt hs0')), hR⟩)
theorem descend_yes {bt bl : Nat} {fid : FuncId} {C : Array Value} (hk : DescKind bt bl fid C) : DescYes fid C 4 0 := desc_yesS hk (.inr (.inr ⟨rfl, rfl, rfl, rfl⟩)) (desc_yesS hk (.inr (.inl ⟨rfl, rfl, rfl, rfl⟩)) (desc_yesS hk (.inl ⟨rfl, rfl, rfl, rfl⟩) (desc_yes1 hk)))

end Go.Proofs.YtkkmcnngpahfaaaGreatDoor

namespace Go.Proofs.YtkkmcnngpahfaaaGreatDoor
open Go.RowKit
set_option linter.unusedSimpArgs false
set_option linter.unusedVariables false

def leafCells (l : Leaf) : Array Value := #[.int .i64 (l.frame : Int), .int .u8 (l.prot : Int), .bool l.copy]
/-- A cell that holds the table's pointer. -/
def PtrAt (w : World) (b t : Nat) : Prop := w.heap[b]? = some (.cells #[.pointer (some ⟨t, 0, none⟩)] 54 (0, 0))
def LeafAt (w : World) (b : Nat) (l : Leaf) : Prop := w.heap[b]? = some (.cells #[.int .i64 (l.frame : Int), .int .u8 (l.prot : Int), .bool l.copy] 31 (0, 0))

theorem keep2 {w w' : World} {b o : Nat} {v : Value} (hb : Below w.heap.size w w') (h : w.cell? ⟨b, o, none⟩ = some v ∧ b < w.heap.size) : w'.cell? ⟨b, o, none⟩ = some v ∧ b < w'.heap.size :=
  ⟨(hb.cell (p := ⟨b, o, none⟩) h.2).trans h.1, Nat.lt_of_lt_of_le h.2 hb.size⟩

set_option maxHeartbeats 1000000 in
theorem find_cl (t c a root f k bt bl : Nat) (l0 l : Leaf) (w : World) (S : Nat → Prop) (p : Pool) (h : PoolAt w S a p) (ht : TabSelf w t c a root) (hbt : PtrAt w bt t) (hbl : LeafAt w bl l0) (hf : f < p.n) (h1 : 1 ≤ p.cnt f) (hk : k < 512)
    (hw : word (p.dat f) k = l.pack) (h7 : l.prot ≤ 7) (hl : l.frame < 1024) :
    Calls Tryz.prog 81 (#[.int .i64 (f : Int), .int .i64 (k : Int)] ++ #[.pointer (some ⟨bt, 0, none⟩), .pointer (some ⟨bl, 0, none⟩)]) w fun e w' => e = .returned (.bool false) ∧ (LeafAt w' bl l ∧ Mod (fun b => b = bl) w w') := by
  have c0 : w.cell? ⟨bt, 0, none⟩ = some (.pointer (some ⟨t, 0, none⟩)) := one_block hbt 0
  have hbw : bl < w.heap.size := (Array.getElem?_eq_some_iff.1 hbl).1
  have HBL := Lib.hid hbl
  have hx9 : l.pack < 18446744073709551616 := by have := pack_lt l h7 hl; omega
  have hup := unpack_pack l h7
  have HUP := Lib.hid hup
  have HW := Lib.hid hw
  clear hbt hbl hup hw
  show Calls Tryz.prog 81 #[.int .i64 (f : Int), .int .i64 (k : Int), .pointer (some ⟨bt, 0, none⟩), .pointer (some ⟨bl, 0, none⟩)] w _
  go_enter Tryz.func81, Tryz.ntmps81
  go_wp2_with fail
  refine (tword_any t c a root f k w S p h ht hf h1 hk).mono ?_
  rintro e w1 ⟨rfl, hb1⟩
  rw [HW.out]
  go_wp2_with fail
  refine (tunpack_any l.pack w1 hx9).mono ?_
  rintro e w2 ⟨rfl, hb2⟩
  rw [HUP.out]
  have hz1 := hb1.size
  have hz2 := hb2.size
  have hB2 : Below w.heap.size w w2 := hb1.trans (hb2.mono hz1)
  have hL2 : LeafAt w2 bl l0 := (hB2.block bl hbw).trans HBL.out
  have x0 := one_block hL2 0
  have x1 := one_block hL2 1
  have x2 := one_block hL2 2
  have z0 := one_free hL2 0
  have z1 := one_free hL2 1
  have z2 := one_free hL2 2
  simp at x0 x1 x2
  have HL2 := Lib.hid hL2
  clear hL2
  go_wp2_with fail
  go_ret
  refine ⟨rfl, ?_, (Mod.of hB2).trans (Out.refl _ _) (((mod_set (S := fun b => b = bl) rfl _ _).trans (Out.refl _ _) (mod_set (S := fun b => b = bl) rfl _ _)).trans (Out.refl _ _) (mod_set (S := fun b => b = bl) rfl _ _))⟩
  unfold LeafAt
  have := Joins.block_setCell (i := 2) (Joins.block_setCell (i := 1) (Joins.block_setCell (i := 0) HL2.out (.int .i64 (l.frame : Int))) (.int .u8 (l.prot : Int))) (.bool l.copy)
  simpa using this

theorem way_int (A : Int) (w : World) (h0 : 0 ≤ A) (h1 : A < 18446744073709551616) :
    Calls Tryz.prog 74 #[.int .u64 A] w fun e w' => e = .returned (wayA (A.toNat / 4096)) ∧ Below w.heap.size w w' := by
  obtain ⟨a, rfl⟩ := Int.eq_ofNat_of_zero_le h0
  rw [Int.toNat_natCast]
  exact way_any a w (by omega)

set_option maxRecDepth 100000 in
set_option maxHeartbeats 2000000 in
theorem tat_none (t c a root : Nat) (A : Int) (V : Value) (w : World) (S : Nat → Prop) (p : Pool) (T : Tab) (h : PoolAt w S a p) (ht : TabSelf w t c a root) (htw : t < w.heap.size) (hw : Way p T (A.toNat / 4096)) (hno : T.lf (A.toNat / 4096) = none)
    (hr : T.nd 4 (part (A.toNat / 4096) 4) = some root) (hA0 : 0 ≤ A) (hA : A < 140737488355328) :
    Calls Tryz.prog 80 #[.pointer (some ⟨t, 0, none⟩), .int .u64 A, V] w fun e w' => e = .returned (.int .i64 6) ∧ Below w.heap.size w w' := by
  have c2 : w.cell? ⟨t, 2, none⟩ = some (.int .i64 (root : Int)) := one_block ht 2
  have HT := Lib.hid ht
  have HP := Lib.hid h
  have HN := Lib.hid hno
  have HR := Lib.hid hr
  have HW := Lib.hid hw
  have hA' : A < 18446744073709551616 := by omega
  have HA' := Lib.hid hA'
  clear ht h hno hr hA' hw
  go_enter Tryz.func80, Tryz.ntmps80
  go_wp2_with fail
  refine (tgone_any t c a root _ HT.out).mono ?_
  rintro e w1 ⟨rfl, rfl⟩
  go_wp2_with fail
  go_region_held3 (fun w' => w'.cell? ⟨t, 2, none⟩ = some (.int .i64 (root : Int)) ∧ t < w'.heap.size)
    ((first | (simp [*]; done) | exact keep2 hb2 (by assumption) | exact keep2 hb1 (by assumption)))
    ((first
      | (go_at_call 74; refine (way_int A _ hA0 HA'.out).mono ?_; rintro e w1 ⟨rfl, hb1⟩; have hb1' : Below w.heap.size w w1 := ((Below.refl w.heap.size w).drew).trans hb1)
      | (go_at_call 75; refine (descend_none4 t c a root root (A.toNat / 4096) V _ S p T (HP.out.below hb1') ((hb1'.block t htw).trans HT.out) (Nat.lt_of_lt_of_le htw hb1'.size) HW.out HN.out HR.out).mono ?_; rintro e w2 ⟨rfl, hb2⟩)))
  have hB : Below w.heap.size w w2 := hb1'.trans (hb2.mono hb1'.size)
  go_wp2_with fail
  go_ret
  exact ⟨rfl, hB⟩

theorem tat_big (t c a root : Nat) (A : Int) (V : Value) (w : World) (ht : TabSelf w t c a root) (hA : 140737488355328 ≤ A) :
    Calls Tryz.prog 80 #[.pointer (some ⟨t, 0, none⟩), .int .u64 A, V] w fun e w' => e = .returned (.int .i64 1) ∧ w = w' := by
  have HT := Lib.hid ht
  clear ht
  go_enter Tryz.func80, Tryz.ntmps80
  go_wp2_with fail
  refine (tgone_any t c a root _ HT.out).mono ?_
  rintro e w1 ⟨rfl, rfl⟩
  go_wp2_with fail
  go_ret
  exact ⟨rfl, rfl⟩
theorem tat_nil (A : Int) (V : Value) (w : World) : Calls Tryz.prog 80 #[.pointer none, .int .u64 A, V] w fun e w' => e = .returned (.int .i64 2) ∧ w = w' := by
  go_enter Tryz.func80, Tryz.ntmps80
  go_wp2_with fail
  refine (tgone_nil _).mono ?_
  rintro e w1 ⟨rfl, rfl⟩
  go_wp2_with fail
  go_ret
  exact ⟨rfl, rfl⟩
theorem tat_freed (t : Nat) (A : Int) (V : Value) (w : World) (c1 : w.cell? ⟨t, 1, none⟩ = some (.pointer none)) : Calls Tryz.prog 80 #[.pointer (some ⟨t, 0, none⟩), .int .u64 A, V] w fun e w' => e = .returned (.int .i64 2) ∧ w = w' := by
  go_enter Tryz.func80, Tryz.ntmps80
  go_wp2_with fail
  refine (tgone_freed t _ c1).mono ?_
  rintro e w1 ⟨rfl, rfl⟩
  go_wp2_with fail
  go_ret
  exact ⟨rfl, rfl⟩

set_option maxRecDepth 100000 in
set_option maxHeartbeats 6000000 in
theorem tat_yes {bt bl : Nat} {fid : FuncId} {C : Array Value} (hk : DescKind bt bl fid C) (t c a root : Nat) (A : Int) (R : World → World → Prop) (w : World) (S : Nat → Prop) (p : Pool) (T : Tab) (h : PoolAt w S a p) (ht : TabSelf w t c a root) (htw : t < w.heap.size) (hw : Way p T (A.toNat / 4096)) (hups : ∀ m, 1 ≤ m → m ≤ 4 → (T.nd m (part (A.toNat / 4096) m)).isSome = true) (l : Leaf) (q1 : Nat) (hlf : T.lf (A.toNat / 4096) = some l) (hq1 : T.nd 1 (part (A.toNat / 4096) 1) = some q1)
    (hcl : ∀ w1, Below w.heap.size w w1 → Calls Tryz.prog fid (#[.int .i64 (q1 : Int), .int .i64 ((num (A.toNat / 4096) 1 : Nat) : Int)] ++ C) w1 fun e w2 => e = .returned (.bool false) ∧ R w1 w2)
    (hr : T.nd 4 (part (A.toNat / 4096) 4) = some root) (hA0 : 0 ≤ A) (hA : A < 140737488355328) :
    Calls Tryz.prog 80 #[.pointer (some ⟨t, 0, none⟩), .int .u64 A, .func (.func fid) #[] C] w fun e w' => e = .returned (.int .i64 0) ∧ ∃ w1, Below w.heap.size w w1 ∧ R w1 w' := by
  have c2 : w.cell? ⟨t, 2, none⟩ = some (.int .i64 (root : Int)) := one_block ht 2
  have HT := Lib.hid ht
  have HP := Lib.hid h
  have HL := Lib.hid hlf
  have HQ := Lib.hid hq1
  have HCL := Lib.hid hcl
  have HU := Lib.hid hups
  have HR := Lib.hid hr
  have HW := Lib.hid hw
  have hA' : A < 18446744073709551616 := by omega
  have HA' := Lib.hid hA'
  have HD := Lib.hid (descend_yes hk)
  clear ht h hlf hq1 hcl hups hr hA' hw
  rcases hk with ⟨rfl, rfl⟩ | ⟨rfl, rfl⟩ | ⟨rfl, rfl⟩ <;> (
    go_enter Tryz.func80, Tryz.ntmps80
    go_wp2_with fail
    refine (tgone_any t c a root _ HT.out).mono ?_
    rintro e w1 ⟨rfl, rfl⟩
    go_wp2_with fail
    go_region_with
      ((first
        | (go_at_call 74; refine (way_int A _ hA0 HA'.out).mono ?_; rintro e w1 ⟨rfl, hb1⟩; have hb1' : Below w.heap.size w w1 := ((Below.refl w.heap.size w).drew).trans hb1; have c2' : w1.cell? ⟨t, 2, none⟩ = some (.int .i64 (root : Int)) := one_block ((hb1'.block t htw).trans HT.out) 2)
        | (go_at_call 75; refine (HD.out t c a root root (A.toNat / 4096) R _ S p T (HP.out.below hb1') ((hb1'.block t htw).trans HT.out) (Nat.lt_of_lt_of_le htw hb1'.size) HW.out HU.out l q1 HL.out HQ.out (fun w5 hw5 => HCL.out w5 (hb1'.trans (hw5.mono hb1'.size))) HR.out).mono ?_; rintro e w2 ⟨rfl, w5, hb5, hR⟩)))
    all_goals
      go_wp2_with fail
      go_ret
      exact ⟨rfl, w5, hb1'.trans (hb5.mono hb1'.size), hR⟩)

end Go.Proofs.YtkkmcnngpahfaaaGreatDoor

namespace Go.Proofs.YtkkmcnngpahfaaaGreatDoor
open Go.RowKit
set_option linter.unusedSimpArgs false
set_option linter.unusedVariables false

def noLeaf : Leaf := ⟨0, 0, false⟩
def findRes (T : Tab) (A : Int) : Leaf × Int := if 140737488355328 ≤ A then (noLeaf, 1) else match T.lf (A.toNat / 4096) with
  | some l => (l, 0)
  | none => (noLeaf, 6)
/-- What a walk through a tree needs of it. -/
structure Tree (p : Pool) (T : Tab) (root : Nat) : Prop where
  way : ∀ pg, Way p T pg
  ups : ∀ pg l, T.lf pg = some l → ∀ m, 1 ≤ m → m ≤ 4 → (T.nd m (part pg m)).isSome = true
  root : T.nd 4 0 = some root
theorem Tree.top {p : Pool} {T : Tab} {root : Nat} (h : Tree p T root) {A : Int} (h0 : 0 ≤ A) (hA : A < 140737488355328) : T.nd 4 (part (A.toNat / 4096) 4) = some root := by
  rw [part_four _ (by omega)]
  exact h.root
theorem Tab.Good.tree {p : Pool} {t : Tab} {rest : Nat → Nat} {pg0 : Nat} (h : t.Good p rest pg0 4) {root : Nat} (hr : t.nd 4 0 = some root) : Tree p t root :=
  ⟨fun pg => h.way pg, fun pg l hl m h1 h4 => h.ok.leafUp hl m h1 h4, hr⟩

def FindPost (w : World) (bl : Nat) (r : Leaf × Int) (e : Ending) (w' : World) : Prop := e = .returned (.int .i64 r.2) ∧ LeafAt w' bl r.1 ∧ Mod (fun b => b = bl) w w'

theorem tat_res (t c a root bt bl : Nat) (A : Int) (w : World) (S : Nat → Prop) (p : Pool) (T : Tab) (h : PoolAt w S a p) (ht : TabSelf w t c a root) (htw : t < w.heap.size) (hw : Tree p T root) (hA0 : 0 ≤ A)
    (hbt : PtrAt w bt t) (hbl : LeafAt w bl noLeaf) :
    Calls Tryz.prog 80 #[.pointer (some ⟨t, 0, none⟩), .int .u64 A, .func (.func 81) #[] #[.pointer (some ⟨bt, 0, none⟩), .pointer (some ⟨bl, 0, none⟩)]] w (FindPost w bl (findRes T A)) := by
  have hbtw : bt < w.heap.size := (Array.getElem?_eq_some_iff.1 hbt).1
  have hblw : bl < w.heap.size := (Array.getElem?_eq_some_iff.1 hbl).1
  by_cases hbig : 140737488355328 ≤ A
  · have hr : findRes T A = (noLeaf, 1) := by unfold findRes; rw [if_pos hbig]
    rw [hr]
    exact (tat_big t c a root A _ w ht hbig).mono fun e w' ⟨he, hw'⟩ => by
      subst hw'
      exact ⟨he, hbl, Mod.refl _ _⟩
  · have hlt : A < 140737488355328 := by omega
    have htop := hw.top hA0 hlt
    have hwy := hw.way (A.toNat / 4096)
    cases hlf : T.lf (A.toNat / 4096) with
    | none =>
      have hr : findRes T A = (noLeaf, 6) := by unfold findRes; rw [if_neg hbig, hlf]
      rw [hr]
      exact (tat_none t c a root A _ w S p T h ht htw hwy hlf htop hA0 hlt).mono fun e w' ⟨he, hb⟩ => ⟨he, (hb.block bl hblw).trans hbl, Mod.of hb⟩
    | some l =>
      have hr : findRes T A = (l, 0) := by unfold findRes; rw [if_neg hbig, hlf]
      rw [hr]
      have hup := hw.ups _ l hlf
      obtain ⟨q1, hq1⟩ := isSome_of (hup 1 (by omega) (by omega))
      obtain ⟨n1, n2, n3⟩ := hwy.node 1 q1 (by omega) (by omega) hq1
      obtain ⟨p7, pf⟩ := hwy.prot l hlf
      have hfew := hwy.few
      refine (tat_yes (bt := bt) (bl := bl) (.inr (.inl ⟨rfl, rfl⟩)) t c a root A (fun w1 w2 => LeafAt w2 bl l ∧ Mod (fun b => b = bl) w1 w2) w S p T h ht htw hwy hup l q1 hlf hq1 (fun w1 hb => ?_) htop hA0 hlt).mono fun e w' ⟨he, w1, hb, hl2, hm⟩ => ⟨he, hl2, (Mod.of hb).trans (Out.refl _ _) hm⟩
      exact find_cl t c a root q1 (num (A.toNat / 4096) 1) bt bl noLeaf l w1 S p (h.below hb) ((hb.block t htw).trans ht) ((hb.block bt hbtw).trans hbt) ((hb.block bl hblw).trans hbl) n1 n2 (num_lt _ _) (by rw [n3, Tab.on_one, hlf]) p7 (by omega)

set_option maxRecDepth 100000 in
set_option maxHeartbeats 2000000 in
theorem tfind_any (t c a root : Nat) (A : Int) (w : World) (S : Nat → Prop) (p : Pool) (T : Tab) (h : PoolAt w S a p) (ht : TabSelf w t c a root) (htw : t < w.heap.size) (hw : Tree p T root) (hA0 : 0 ≤ A) :
    Calls Tryz.prog 21 #[.pointer (some ⟨t, 0, none⟩), .int .u64 A] w
      fun e w' => e = .returned (.tuple #[.agg (leafCells (findRes T A).1), .int .i64 (findRes T A).2]) ∧ Below w.heap.size w w' := by
  have HP := Lib.hid h
  have HT := Lib.hid ht
  have HW := Lib.hid hw
  clear h ht
  obtain ⟨w0, hw0⟩ : ∃ w0, w0 = (((w.alloc (.cells #[.pointer (some ⟨t, 0, none⟩)] 54)).alloc (.cells #[.int .i64 0, .int .u8 0, .bool false] 31)).alloc (.cells #[.int .i64 0, .int .u8 0, .bool false] 31)) := ⟨_, rfl⟩
  have hB0 : Below w.heap.size w w0 := by rw [hw0]; exact (((Below.refl _ _).alloc (Nat.le_refl _) _).alloc (by simp) _).alloc (by simp; omega) _
  have hs0 : w0.heap.size = w.heap.size + 1 + 1 + 1 := by rw [hw0]; simp
  have hPt : PtrAt w0 w.heap.size t := by rw [hw0]; exact (Below.heap_alloc _ _ _ (by simp; omega)).trans ((Below.heap_alloc _ _ _ (by simp)).trans (heap_alloc_new w _))
  have hR0 : LeafAt w0 (w.heap.size + 1) noLeaf := by
    rw [hw0]
    have e : (w.alloc (.cells #[.pointer (some ⟨t, 0, none⟩)] 54)).heap.size = w.heap.size + 1 := by simp
    rw [← e]
    exact (Below.heap_alloc _ _ _ (by simp)).trans (heap_alloc_new _ _)
  have hL0 : LeafAt w0 (w.heap.size + 1 + 1) noLeaf := by
    rw [hw0]
    have e : ((w.alloc (.cells #[.pointer (some ⟨t, 0, none⟩)] 54)).alloc (.cells #[.int .i64 0, .int .u8 0, .bool false] 31)).heap.size = w.heap.size + 1 + 1 := by simp
    rw [← e]
    exact heap_alloc_new _ _
  have hres := tat_res t c a root w.heap.size (w.heap.size + 1 + 1) A w0 S p T (HP.out.below hB0) ((hB0.block t htw).trans HT.out) (by omega) HW.out hA0 hPt hL0
  generalize hL : findRes T A = r at *
  have HRES := Lib.hid hres
  have HR0 := Lib.hid hR0
  have HS0 := Lib.hid hs0
  have hs0' : w.heap.size + 1 < w0.heap.size := by omega
  clear hres hR0 hL0 hPt hL hs0
  have HW0 := Lib.hid hw0
  clear hw0
  go_enter Tryz.func21, Tryz.ntmps21
  go_wp2_with fail
  rw [← HW0.out]
  refine (HRES.out).mono ?_
  rintro e w2 ⟨rfl, hl2, hm⟩
  have hz2 := hm.size
  have hR2 : LeafAt w2 (w.heap.size + 1) noLeaf := (hm.block _ hs0' (by omega)).trans HR0.out
  have x0 : w2.cell? ⟨w.heap.size + 1 + 1, 0, none⟩ = some (.int .i64 (r.1.frame : Int)) := one_block hl2 0
  have x1 : w2.cell? ⟨w.heap.size + 1 + 1, 1, none⟩ = some (.int .u8 (r.1.prot : Int)) := one_block hl2 1
  have x2 : w2.cell? ⟨w.heap.size + 1 + 1, 2, none⟩ = some (.bool r.1.copy) := one_block hl2 2
  have y0 : w2.cell? ⟨w.heap.size + 1, 0, none⟩ = some (.int .i64 0) := one_block hR2 0
  have y1 : w2.cell? ⟨w.heap.size + 1, 1, none⟩ = some (.int .u8 0) := one_block hR2 1
  have y2 : w2.cell? ⟨w.heap.size + 1, 2, none⟩ = some (.bool false) := one_block hR2 2
  have z0 := one_free hR2 0
  have z1 := one_free hR2 1
  have z2 := one_free hR2 2
  have hlt : w.heap.size + 1 < w2.heap.size := by omega
  clear hl2 hR2
  have hB : Below w.heap.size w w2 := hB0.trans (hm.below (fun b hb => by omega) (by omega))
  go_wp2_with fail
  exact bodyPost_ret (v := .tuple #[.agg (leafCells r.1), .int .i64 r.2]) (by simp [results, Tryz.results21, go_sem, hlt, y0, y1, y2, z0, z1, z2, leafCells]) rfl ⟨rfl, ((hB.setCell (by show w.heap.size ≤ w.heap.size + 1; omega) _).setCell (by show w.heap.size ≤ w.heap.size + 1; omega) _).setCell (by show w.heap.size ≤ w.heap.size + 1; omega) _⟩

end Go.Proofs.YtkkmcnngpahfaaaGreatDoor

namespace Go.Proofs.YtkkmcnngpahfaaaGreatDoor
open Go.RowKit
set_option linter.unusedSimpArgs false
set_option linter.unusedVariables false

theorem up_cnt (p : Pool) (f g : Nat) (h : 1 ≤ p.cnt g) : 1 ≤ (p.up f).cnt g := by
  by_cases e : g = f
  · subst e; simp only [Pool.up, upd_same]; omega
  · simp only [Pool.up, upd_ne _ _ e]; exact h

theorem PoolAt.drew {w : World} {S : Nat → Prop} {a : Nat} {p : Pool} (h : PoolAt w S a p) : PoolAt w.drew S a p := h.below ((Below.refl _ _).drew)
theorem Mod.undrew {S : Nat → Prop} {w w' : World} (h : Mod S w.drew w') : Mod S w w' := ⟨h.os, h.tape, h.output, h.size, h.block⟩
theorem below_undrew {B : Nat} {w w' : World} (h : Below B w.drew w') : Below B w w' := ⟨h.os, h.tape, h.output, h.size, h.block⟩

set_option maxRecDepth 100000 in
set_option maxHeartbeats 2000000 in
theorem set_cl (t c a root f k bt bl : Nat) (l was : Leaf) (w : World) (S : Nat → Prop) (p : Pool) (h : PoolAt w S a p) (ht : TabSelf w t c a root) (htS : ¬ S t) (htw : t < w.heap.size) (hbt : PtrAt w bt t) (hbtS : ¬ S bt) (hbl : LeafAt w bl l) (hblS : ¬ S bl)
    (hf : f < p.n) (h1 : 1 ≤ p.cnt f) (hk : k < 512) (hw : word (p.dat f) k = was.pack) (hw7 : was.prot ≤ 7) (hwf : was.frame < p.n) (hwc : 1 ≤ p.cnt was.frame) (h7 : l.prot ≤ 7) (hlf : l.frame < p.n) (hlc : 1 ≤ p.cnt l.frame) (hcap : p.cnt l.frame + 1 < 1000000000000) (hn : p.n ≤ 1024)
    (hfc : 1 ≤ ((p.up l.frame).down was.frame).cnt f) :
    Calls Tryz.prog 90 (#[.int .i64 (f : Int), .int .i64 (k : Int)] ++ #[.pointer (some ⟨bt, 0, none⟩), .pointer (some ⟨bl, 0, none⟩)]) w
      fun e w' => e = .returned (.bool false) ∧ (PoolAt w' S a (((p.up l.frame).down was.frame).store f (setWord (p.dat f) k l.pack)) ∧ Mod S w w') := by
  have c0 : w.cell? ⟨bt, 0, none⟩ = some (.pointer (some ⟨t, 0, none⟩)) := one_block hbt 0
  have hbtw : bt < w.heap.size := (Array.getElem?_eq_some_iff.1 hbt).1
  have hblw : bl < w.heap.size := (Array.getElem?_eq_some_iff.1 hbl).1
  have hx9 : was.pack < 18446744073709551616 := by have := pack_lt was hw7 (by omega); omega
  have hl9 : l.pack < 18446744073709551616 := by have := pack_lt l h7 (by omega); omega
  have HUP := Lib.hid (unpack_pack was hw7)
  have HW := Lib.hid hw
  have HBT := Lib.hid hbt
  have HBL := Lib.hid hbl
  have HT := Lib.hid ht
  have HP := Lib.hid h
  clear hbt hbl hw h ht
  show Calls Tryz.prog 90 #[.int .i64 (f : Int), .int .i64 (k : Int), .pointer (some ⟨bt, 0, none⟩), .pointer (some ⟨bl, 0, none⟩)] w _
  go_enter Tryz.func90, Tryz.ntmps90
  go_wp2_with fail
  refine (tword_any t c a root f k w S p HP.out HT.out hf h1 hk).mono ?_
  rintro e w1 ⟨rfl, hb1⟩
  rw [HW.out]
  go_wp2_with fail
  refine (tunpack_any was.pack w1 hx9).mono ?_
  rintro e w2 ⟨rfl, hb2⟩
  rw [HUP.out]
  have hz1 := hb1.size
  have hz2 := hb2.size
  go_upto_region 2 with (fail)
  obtain ⟨w3, hw3⟩ : ∃ w3, w3 = w2.alloc (.cells #[.int .i64 (was.frame : Int), .int .u8 (was.prot : Int), .bool was.copy] 31) := ⟨_, rfl⟩
  rw [← hw3]
  have hB3 : Below w.heap.size w w3 := by rw [hw3]; exact (hb1.trans (hb2.mono hz1)).alloc (by omega) _
  have hW3 : LeafAt w3 w2.heap.size was := by rw [hw3]; exact heap_alloc_new _ _
  have hs3 : w2.heap.size < w3.heap.size := by rw [hw3]; simp
  have hP3 := HP.out.below hB3
  have hT3 : TabSelf w3 t c a root := (hB3.block t htw).trans HT.out
  have hPt3 : PtrAt w3 bt t := (hB3.block bt hbtw).trans HBT.out
  have hBl3 : LeafAt w3 bl l := (hB3.block bl hblw).trans HBL.out
  have hWS : ¬ S w2.heap.size := fun e => by have := HP.out.low _ e; omega
  clear hw3 c0
  have d0 : w3.cell? ⟨bt, 0, none⟩ = some (.pointer (some ⟨t, 0, none⟩)) := one_block hPt3 0
  have d1 : w3.cell? ⟨t, 1, none⟩ = some (.pointer (some ⟨a, 0, none⟩)) := one_block hT3 1
  have d2 : w3.cell? ⟨bl, 0, none⟩ = some (.int .i64 (l.frame : Int)) := one_block hBl3 0
  have HP3 := Lib.hid hP3
  have HT3 := Lib.hid hT3
  have HPt3 := Lib.hid hPt3
  have HBl3 := Lib.hid hBl3
  have HW3 := Lib.hid hW3
  clear hP3 hT3 hPt3 hBl3 hW3
  go_still_tail 6, (by kernel_rfl)
  go_wp2_with fail
  refine (up_yes a l.frame _ S p (HP3.out.drew) (by rw [takenB_nat]; exact decide_eq_true ⟨hlf, hlc⟩) hcap).mono ?_
  rintro e w4 ⟨rfl, hP4, hm4'⟩
  have hm4 := hm4'.undrew
  have hz4 := hm4.size
  have hs4 : w2.heap.size < w4.heap.size := by omega
  have hT4 : TabSelf w4 t c a root := (hm4.block t (by omega) htS).trans HT3.out
  have hPt4 : PtrAt w4 bt t := (hm4.block bt (by omega) hbtS).trans HPt3.out
  have hBl4 : LeafAt w4 bl l := (hm4.block bl (by omega) hblS).trans HBl3.out
  have hW4 : LeafAt w4 w2.heap.size was := (hm4.block _ hs3 hWS).trans HW3.out
  clear d0 d1 d2 hm4'
  have d0 : w4.cell? ⟨bt, 0, none⟩ = some (.pointer (some ⟨t, 0, none⟩)) := one_block hPt4 0
  have d1 : w4.cell? ⟨t, 1, none⟩ = some (.pointer (some ⟨a, 0, none⟩)) := one_block hT4 1
  have d2 : w4.cell? ⟨w2.heap.size, 0, none⟩ = some (.int .i64 (was.frame : Int)) := one_block hW4 0
  have HP4 := Lib.hid hP4
  have HT4 := Lib.hid hT4
  have HPt4 := Lib.hid hPt4
  have HBl4 := Lib.hid hBl4
  clear hP4 hT4 hPt4 hBl4 hW4
  go_upto_region 3 with (fail)
  go_still_tail 6, (by kernel_rfl)
  go_wp2_with fail
  refine (down_yes a was.frame _ S _ (HP4.out.drew) hwf (up_cnt p _ _ hwc)).mono ?_
  rintro e w5 ⟨rfl, hP5, hm5'⟩
  have hm5 := hm5'.undrew
  have hz5 := hm5.size
  have hT5 : TabSelf w5 t c a root := (hm5.block t (by omega) htS).trans HT4.out
  have hPt5 : PtrAt w5 bt t := (hm5.block bt (by omega) hbtS).trans HPt4.out
  have hBl5 : LeafAt w5 bl l := (hm5.block bl (by omega) hblS).trans HBl4.out
  clear d0 d1 d2 hm5'
  have d0 : w5.cell? ⟨bt, 0, none⟩ = some (.pointer (some ⟨t, 0, none⟩)) := one_block hPt5 0
  have d1 : w5.cell? ⟨bl, 0, none⟩ = some (.int .i64 (l.frame : Int)) := one_block hBl5 0
  have d2 : w5.cell? ⟨bl, 1, none⟩ = some (.int .u8 (l.prot : Int)) := one_block hBl5 1
  have d3 : w5.cell? ⟨bl, 2, none⟩ = some (.bool l.copy) := one_block hBl5 2
  have HP5 := Lib.hid hP5
  have HT5 := Lib.hid hT5
  have hbt5 : bt < w5.heap.size := by omega
  have hbl5 : bl < w5.heap.size := by omega
  clear hP5 hT5 hPt5 hBl5
  go_upto_region 4 with (fail)
  go_region_with
    ((first
      | (go_at_call 79; refine (tpack_any l _ h7 (by omega)).mono ?_; rintro e w6 ⟨rfl, hb6'⟩; have hb6 : Below w5.heap.size w5 w6 := below_undrew hb6'; have d0' : w6.cell? ⟨bt, 0, none⟩ = some (.pointer (some ⟨t, 0, none⟩)) := (hb6.cell (p := ⟨bt, 0, none⟩) hbt5).trans d0)
      | (go_at_call 78; refine (tput_any t c a root f k l.pack _ S _ (HP5.out.below hb6) ((hb6.block t (by omega)).trans HT5.out) (by have := hb6.size; omega) hf hfc hk hl9).mono ?_; rintro e w7 ⟨rfl, hP7, hm7⟩)))
  all_goals
    go_wp2_with fail
    go_ret
    exact ⟨rfl, hP7, (Mod.of hB3).trans (Out.refl _ _) (hm4.trans (Out.refl _ _) (hm5.trans (Out.refl _ _) ((Mod.of hb6).trans (Out.refl _ _) hm7)))⟩


end Go.Proofs.YtkkmcnngpahfaaaGreatDoor
