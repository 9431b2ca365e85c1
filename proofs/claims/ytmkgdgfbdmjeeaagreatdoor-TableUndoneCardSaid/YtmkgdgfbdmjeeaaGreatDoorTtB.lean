/- Tables: way, gone, empty. -/
import Derived.Test.YtmkgdgfbdmjeeaaGreatDoorTtA
namespace Go.Proofs.YtmkgdgfbdmjeeaaGreatDoor
open Go.RowKit
set_option linter.unusedSimpArgs false
set_option linter.unusedVariables false

def wayV (pg k j : Nat) : Value := .int .i64 (if j < k then ((num pg (4 - j) : Nat) : Int) else 0)
/-- A way as a value. -/
def wayA (pg : Nat) : Value := .agg #[.int .i64 ((num pg 4 : Nat) : Int), .int .i64 ((num pg 3 : Nat) : Int), .int .i64 ((num pg 2 : Nat) : Int), .int .i64 ((num pg 1 : Nat) : Int)]
theorem way_num (a k : Nat) (h : 1 ≤ k) : ((a : Int) / (2 : Int) ^ (12 + 9 * (k - 1)) % 512) = ((num (a / 4096) k : Nat) : Int) := by
  unfold num
  have e : (2 : Nat) ^ (12 + 9 * (k - 1)) = 4096 * 512 ^ (k - 1) := by
    rw [Nat.pow_add, Nat.pow_mul]
  rw [Nat.div_div_eq_div_mul, ← e]
  simp

set_option maxRecDepth 100000 in
set_option maxHeartbeats 2000000 in
theorem way_any (a : Nat) (w : World) (ha : a < 18446744073709551616) :
    Calls Tryz.prog 86 #[.int .u64 (a : Int)] w fun e w' => e = .returned (wayA (a / 4096)) ∧ Below w.heap.size w w' := by
  have e4 : ((a : Int) / 549755813888 % 512) = ((num (a / 4096) 4 : Nat) : Int) := way_num a 4 (by omega)
  have e3 : ((a : Int) / 1073741824 % 512) = ((num (a / 4096) 3 : Nat) : Int) := way_num a 3 (by omega)
  have e2 : ((a : Int) / 2097152 % 512) = ((num (a / 4096) 2 : Nat) : Int) := way_num a 2 (by omega)
  have e1 : ((a : Int) / 4096 % 512) = ((num (a / 4096) 1 : Nat) : Int) := way_num a 1 (by omega)
  have E4 := Lib.hid e4
  have E3 := Lib.hid e3
  have E2 := Lib.hid e2
  have E1 := Lib.hid e1
  have hx0 := heap_alloc_new w (.cells #[wayV (a / 4096) 0 0, wayV (a / 4096) 0 1, wayV (a / 4096) 0 2, wayV (a / 4096) 0 3] 144)
  have HX0 := Lib.hid hx0
  clear e1 e2 e3 e4 hx0
  go_enter Tryz.func86, Tryz.ntmps86
  go_wp2_with fail
  go_loopw [3, 4] (fun _ i wr => ∃ k : Nat, k ≤ 4 ∧ i = .int .i64 k ∧ wr.heap[w.heap.size]? = some (.cells #[wayV (a / 4096) k 0, wayV (a / 4096) k 1, wayV (a / 4096) k 2, wayV (a / 4096) k 3] 144 (0, 0)) ∧ Below w.heap.size w wr) (fun _ i _ => 4 - (intOf i).toNat)
  case atStart => exact ⟨0, Nat.zero_le _, rfl, HX0.out, (Below.refl _ _).alloc (Nat.le_refl _) _⟩
  case round =>
    obtain ⟨k, hk, rfl, hX, hB⟩ := hrel
    have hlt : w.heap.size < wr.heap.size := (Array.getElem?_eq_some_iff.1 hX).1
    have f0 := one_free hX 0
    have f1 := one_free hX 1
    have f2 := one_free hX 2
    have f3 := one_free hX 3
    have HX := Lib.hid hX
    rcases (show k = 0 ∨ k = 1 ∨ k = 2 ∨ k = 3 ∨ k = 4 by omega) with rfl | rfl | rfl | rfl | rfl
    · have c0 : wr.cell? ⟨w.heap.size, 0, none⟩ = some (.int .i64 0) := one_block hX 0
      clear hX
      go_wp2
      go_roundw
      case rel =>
        refine ⟨1, by omega, by go_num, ?_, hB.setCell (Nat.le_refl _) _⟩
        rw [Joins.block_setCell HX.out, E4.out]
        rfl
      case measure => simp [intOf]
    · have c0 : wr.cell? ⟨w.heap.size, 1, none⟩ = some (.int .i64 0) := one_block hX 1
      clear hX
      go_wp2
      go_roundw
      case rel =>
        refine ⟨2, by omega, by go_num, ?_, hB.setCell (Nat.le_refl _) _⟩
        rw [Joins.block_setCell HX.out, E3.out]
        rfl
      case measure => simp [intOf]
    · have c0 : wr.cell? ⟨w.heap.size, 2, none⟩ = some (.int .i64 0) := one_block hX 2
      clear hX
      go_wp2
      go_roundw
      case rel =>
        refine ⟨3, by omega, by go_num, ?_, hB.setCell (Nat.le_refl _) _⟩
        rw [Joins.block_setCell HX.out, E2.out]
        rfl
      case measure => simp [intOf]
    · have c0 : wr.cell? ⟨w.heap.size, 3, none⟩ = some (.int .i64 0) := one_block hX 3
      clear hX
      go_wp2
      go_roundw
      case rel =>
        refine ⟨4, by omega, by go_num, ?_, hB.setCell (Nat.le_refl _) _⟩
        rw [Joins.block_setCell HX.out, E1.out]
        rfl
      case measure => simp [intOf]
    · have c0 : wr.cell? ⟨w.heap.size, 0, none⟩ = some (.int .i64 ((num (a / 4096) 4 : Nat) : Int)) := one_block hX 0
      have c1 : wr.cell? ⟨w.heap.size, 1, none⟩ = some (.int .i64 ((num (a / 4096) 3 : Nat) : Int)) := one_block hX 1
      have c2 : wr.cell? ⟨w.heap.size, 2, none⟩ = some (.int .i64 ((num (a / 4096) 2 : Nat) : Int)) := one_block hX 2
      have c3 : wr.cell? ⟨w.heap.size, 3, none⟩ = some (.int .i64 ((num (a / 4096) 1 : Nat) : Int)) := one_block hX 3
      clear hX
      go_wp2
      exact bodyPost_ret (v := wayA (a / 4096)) (by simp [results, Tryz.results86, go_sem, hlt, f0, f1, f2, f3, c0, c1, c2, c3, wayA]) rfl ⟨rfl, (((hB.setCell (Nat.le_refl _) _).setCell (Nat.le_refl _) _).setCell (Nat.le_refl _) _).setCell (Nat.le_refl _) _⟩

set_option maxHeartbeats 400000 in
theorem tgone_any (t c a root : Nat) (w : World) (ht : TabSelf w t c a root) :
    Calls Tryz.prog 77 #[.pointer (some ⟨t, 0, none⟩)] w fun e w' => e = .returned (.bool false) ∧ w = w' := by
  have c1 : w.cell? ⟨t, 1, none⟩ = some (.pointer (some ⟨a, 0, none⟩)) := one_block ht 1
  clear ht
  go_enter Tryz.func77, Tryz.ntmps77
  go_wp2
  go_ret
  exact ⟨rfl, rfl⟩
theorem tgone_nil (w : World) : Calls Tryz.prog 77 #[.pointer none] w fun e w' => e = .returned (.bool true) ∧ w = w' := by
  go_enter Tryz.func77, Tryz.ntmps77
  go_wp2
  go_ret
  exact ⟨rfl, rfl⟩
theorem tgone_freed (t : Nat) (w : World) (c1 : w.cell? ⟨t, 1, none⟩ = some (.pointer none)) :
    Calls Tryz.prog 77 #[.pointer (some ⟨t, 0, none⟩)] w fun e w' => e = .returned (.bool true) ∧ w = w' := by
  go_enter Tryz.func77, Tryz.ntmps77
  go_wp2
  go_ret
  exact ⟨rfl, rfl⟩

def allZero (d : Nat → Nat) (n : Nat) : Bool := decide (∀ i, i < n → d i = 0)
set_option maxRecDepth 100000 in
set_option maxHeartbeats 1000000 in
theorem tempty_any (t c a root f : Nat) (w : World) (S : Nat → Prop) (p : Pool) (h : PoolAt w S a p) (ht : TabSelf w t c a root) (hf : f < p.n) (h1 : 1 ≤ p.cnt f) :
    Calls Tryz.prog 127 #[.pointer (some ⟨t, 0, none⟩), .int .i64 (f : Int)] w fun e w' => e = .returned (.bool (allZero (p.dat f) 4096)) ∧ Below w.heap.size w w' := by
  have c1 : w.cell? ⟨t, 1, none⟩ = some (.pointer (some ⟨a, 0, none⟩)) := one_block ht 1
  clear ht
  go_enter Tryz.func127, Tryz.ntmps127
  go_wp2_with fail
  refine (load_yes a f 0 4096 w S p h hf h1 (by omega) (by omega)).mono ?_
  rintro e w1 ⟨rfl, hB, hz, hb1⟩
  have HB := Lib.hid hB
  clear hB
  go_wp2_with fail
  go_loop [20] (fun i => ∃ k : Nat, k ≤ 4096 ∧ i = .int .i64 k ∧ ∀ i, i < k → p.dat f i = 0) (fun i => 4096 - (intOf i).toNat)
  case atStart => exact ⟨0, Nat.zero_le _, rfl, fun i hi => by omega⟩
  case round =>
    obtain ⟨k, hk, rfl, hz0⟩ := hrel
    have HZ := Lib.hid hz0
    clear hz0
    by_cases hlt : k < 4096
    · have hc : w1.cell? ⟨w.heap.size, k, none⟩ = some (.int .u8 ((p.dat f k : Nat) : Int)) := by
        have h9 := row_cell HB.out hlt
        simpa using h9
      by_cases hd : p.dat f k = 0
      · rw [hd] at hc
        have HD := Lib.hid hd
        clear hd
        go_wp2
        go_round
        case rel => exact ⟨k + 1, by omega, by go_num, fun i hi => by
          rcases Nat.lt_or_ge i k with h2 | h2
          · exact HZ.out i h2
          · have : i = k := by omega
            rw [this]; exact HD.out⟩
        case measure => simp [intOf]; omega
      · have hne : (((p.dat f k : Nat) : Int) != 0) = true := by rw [bne_iff_ne]; omega
        have HD := Lib.hid hd
        clear hd
        go_wp2
        go_ret
        exact ⟨ret_bool (decide_eq_false fun e => HD.out (e k hlt)).symm, hb1⟩
    · obtain rfl : k = 4096 := by omega
      go_wp2
      go_ret
      exact ⟨ret_bool (decide_eq_true HZ.out).symm, hb1⟩

end Go.Proofs.YtmkgdgfbdmjeeaaGreatDoor
