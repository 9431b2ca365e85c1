/- words.Get at eight bytes of a row. -/
import Derived.Test.YtadmeeabbkpmlaaGreatDoorRows
import Derived.WalkKit
import Derived.WalkSpells
import Derived.WalkLawsBesides
import Derived.Lib.Hide
import Derived.Laws.Bits64b
import Derived.Laws.BitsAllLaws
import Derived.LoopTactic
import Derived.Deep.Upon

namespace Go.Proofs.YtadmeeabbkpmlaaGreatDoor
open Go.RowKit
set_option linter.unusedSimpArgs false
set_option linter.unusedVariables false
/-- The number that n bytes from o on say, the lowest first. -/
def leVal (d : Nat → Nat) (o : Nat) : Nat → Nat
  | 0 => 0
  | n + 1 => leVal d o n + d (o + n) * 256 ^ n
theorem leVal_lt {d : Nat → Nat} (hd : ∀ i, d i < 256) (o n : Nat) : leVal d o n < 256 ^ n := by
  induction n with
  | zero => simp [leVal]
  | succ n ih =>
    unfold leVal
    have h1 := hd (o + n)
    have h2 : d (o + n) * 256 ^ n ≤ 255 * 256 ^ n := Nat.mul_le_mul_right _ (by omega)
    rw [Nat.pow_succ]
    omega
theorem one_block {w : World} {b : Nat} {cs : Array Value} {T : TypeId} {fr : Nat × Nat} (h : w.heap[b]? = some (.cells cs T fr)) (i : Nat) : w.cell? ⟨b, i, none⟩ = cs[i]? := by simp [World.cell?, h]
theorem or_shift {x b k : Nat} (hx : x < 256 ^ k) (hb : b < 256) (hk : k < 8) : bits .or .u64 (x : Int) (IntKind.u64.wrap ((b : Int) * (2 : Int) ^ (8 * k))) = ((x + b * 256 ^ k : Nat) : Int) := by
  have e : (2 : Nat) ^ (8 * k) = 256 ^ k := by rw [Nat.pow_mul]
  have e2 : ((2 : Int) ^ (8 * k)) = ((256 ^ k : Nat) : Int) := by
    rw [← e]; simp
  have h256 : (256 : Nat) ^ k * 256 ≤ 18446744073709551616 := by
    have : (256 : Nat) ^ (k + 1) ≤ 256 ^ 8 := Nat.pow_le_pow_right (by decide) (by omega)
    rw [Nat.pow_succ] at this
    have e3 : (256 : Nat) ^ 8 = 18446744073709551616 := by decide
    omega
  have hb2 : b * 256 ^ k ≤ 255 * 256 ^ k := Nat.mul_le_mul_right _ (by omega)
  have hpos : 0 < 256 ^ k := Nat.pow_pos (by decide)
  rw [e2, show ((b : Int) * ((256 ^ k : Nat) : Int)) = ((b * 256 ^ k : Nat) : Int) from by simp]
  have hor : x ||| b * 256 ^ k = x + b * 256 ^ k := by
    rw [← e] at hx ⊢
    rw [Nat.or_comm, Nat.mul_comm b, ← Nat.two_pow_add_eq_or_of_lt hx, Nat.add_comm]
  generalize hm : b * 256 ^ k = m at *
  generalize 256 ^ k = q at *
  have hw : IntKind.u64.wrap (m : Int) = (m : Int) := by rw [IntKind.wrap_u64]; omega
  rw [hw, bits_or_u64_nat x m (by omega) (by omega), hor]
set_option maxHeartbeats 400000 in
theorem index_8 (g : Nat) (w : World) (h0 : w.cell? ⟨g, 0, none⟩ = some (.int .i64 1)) (h1 : w.cell? ⟨g, 1, none⟩ = some (.int .i64 2)) (h2 : w.cell? ⟨g, 2, none⟩ = some (.int .i64 4)) (h3 : w.cell? ⟨g, 3, none⟩ = some (.int .i64 8)) :
    Calls Tryz.prog 290 #[.slice (some ⟨g, 0, none⟩) 4 4, .int .i64 8] w fun e w' => e = .returned (.int .i64 3) ∧ w = w' := by
  go_enter Tryz.func290, Tryz.ntmps290
  go_wp2
  go_loop [8] (fun i => ∃ k : Nat, k ≤ 3 ∧ i = .int .i64 k) (fun i => 4 - (intOf i).toNat)
  case atStart => exact ⟨0, Nat.zero_le _, rfl⟩
  case round =>
    obtain ⟨k, hk, rfl⟩ := hrel
    rcases (show k = 0 ∨ k = 1 ∨ k = 2 ∨ k = 3 by omega) with rfl | rfl | rfl | rfl
    · go_wp2
      go_round
      case rel => exact ⟨1, by omega, by go_num⟩
      case measure => simp [intOf]
    · go_wp2
      go_round
      case rel => exact ⟨2, by omega, by go_num⟩
      case measure => simp [intOf]
    · go_wp2
      go_round
      case rel => exact ⟨3, by omega, by go_num⟩
      case measure => simp [intOf]
    · go_wp2
      go_ret
      exact ⟨rfl, rfl⟩

set_option maxHeartbeats 400000 in
theorem contains_8 (g : Nat) (w : World) (h0 : w.cell? ⟨g, 0, none⟩ = some (.int .i64 1)) (h1 : w.cell? ⟨g, 1, none⟩ = some (.int .i64 2)) (h2 : w.cell? ⟨g, 2, none⟩ = some (.int .i64 4)) (h3 : w.cell? ⟨g, 3, none⟩ = some (.int .i64 8)) :
    Calls Tryz.prog 236 #[.slice (some ⟨g, 0, none⟩) 4 4, .int .i64 8] w fun e w' => e = .returned (.bool true) ∧ w = w' := by
  go_enter Tryz.func236, Tryz.ntmps236
  go_wp2_with (go_at_call 290; refine (index_8 g _ h0 h1 h2 h3).mono ?_; rintro e w1 ⟨rfl, rfl⟩)
  go_ret
  exact ⟨rfl, rfl⟩

set_option maxHeartbeats 400000 in
theorem sized_8 (w : World) : Calls Tryz.prog 172 #[.int .i64 8] w fun e w' => e = .returned (.bool true) ∧ Below w.heap.size w w' := by
  go_enter Tryz.func172, Tryz.ntmps172
  go_wp2_with (go_at_call 236; refine (contains_8 w.heap.size _ (by simp) (by simp) (by simp) (by simp)).mono ?_; rintro e w1 ⟨rfl, rfl⟩)
  go_ret
  exact ⟨rfl, (Below.refl _ _).alloc (Nat.le_refl _) _⟩

theorem not_8 : bits .xor .u64 (if IntKind.u64.signed = true then -1 else IntKind.u64.max) 8 = 18446744073709551607 := by decide +kernel
theorem no_8 (a : Nat) (ha : a ≤ 1000000) : ¬ bits .xor .u64 (if IntKind.u64.signed = true then -1 else IntKind.u64.max) 8 < (a : Int) := by
  rw [not_8]
  omega
set_option maxHeartbeats 400000 in
theorem add_8 (a : Nat) (w : World) (ha : a ≤ 1000000) : Calls Tryz.prog 77 #[.int .u64 (a : Int), .int .u64 8] w fun e w' => e = .returned (.tuple #[.int .u64 ((a : Int) + 8), .bool true]) ∧ w = w' := by
  have hno := no_8 a ha
  go_enter Tryz.func77, Tryz.ntmps77
  go_wp2
  all_goals
    go_ret2
    exact ⟨rfl, rfl⟩

set_option maxHeartbeats 400000 in
theorem inside_8 (a n : Nat) (w : World) (ha : a + 8 ≤ n) (hn : n ≤ 1000000) : Calls Tryz.prog 173 #[.int .u64 (a : Int), .int .u64 8, .int .u64 (n : Int)] w fun e w' => e = .returned (.bool true) ∧ w = w' := by
  have hle : decide ((a : Int) + 8 ≤ (n : Int)) = true := decide_eq_true (by omega)
  go_enter Tryz.func173, Tryz.ntmps173
  go_wp2_with (go_at_call 77; refine (add_8 a _ (by omega)).mono ?_; rintro e w1 ⟨rfl, rfl⟩)
  go_ret
  exact ⟨rfl, rfl⟩

set_option maxHeartbeats 400000 in
theorem check_8 (a n c : Nat) (A : Option Addr) (w : World) (ha : a + 8 ≤ n) (hn : n ≤ 1000000) : Calls Tryz.prog 127 #[.slice A n c, .int .u64 (a : Int), .int .i64 8] w fun e w' => e = .returned (.int .i64 0) ∧ Below w.heap.size w w' := by
  go_enter Tryz.func127, Tryz.ntmps127
  go_wp2_with (first
    | (go_at_call 172; refine (sized_8 _).mono ?_; rintro e w1 ⟨rfl, hb1⟩)
    | (go_at_call 173; refine (inside_8 a n _ ha hn).mono ?_; rintro e w1 ⟨rfl, rfl⟩))
  go_ret
  exact ⟨rfl, hb1⟩

set_option maxHeartbeats 1000000 in
theorem get_8 (a n c b : Nat) (arr : Array Value) (T : TypeId) (fr : Nat × Nat) (d : Nat → Nat) (w : World) (ha : a + 8 ≤ n) (hn : n ≤ 1000000) (hb : w.heap[b]? = some (.cells arr T fr)) (hcell : ∀ k, k < 8 → arr[a + k]? = some (.int .u8 (d (a + k) : Int))) (hd : ∀ i, d i < 256) (hbw : b < w.heap.size) :
    Calls Tryz.prog 241 #[.slice (some ⟨b, 0, none⟩) n c, .int .u64 (a : Int), .int .i64 8] w fun e w' => e = .returned (.tuple #[.int .u64 ((leVal d a 8 : Nat) : Int), .int .i64 0]) ∧ Below w.heap.size w w' := by
  go_enter Tryz.func241, Tryz.ntmps241
  go_wp2_with (go_at_call 127; refine (check_8 a n c _ _ ha hn).mono ?_; rintro e w1 ⟨rfl, hb1⟩)
  have hB : w1.heap[b]? = some (.cells arr T fr) := (hb1.block b hbw).trans hb
  have HB := Lib.hid hB
  have HC := Lib.hid hcell
  clear hB hb hcell
  go_loop [6, 18] (fun x i => ∃ k : Nat, k ≤ 8 ∧ i = .int .i64 k ∧ x = .int .u64 ((leVal d a k : Nat) : Int)) (fun _ i => 8 - (intOf i).toNat)
  case atStart => exact ⟨0, Nat.zero_le _, rfl, rfl⟩
  case round =>
    obtain ⟨k, hk, rfl, rfl⟩ := hrel
    by_cases hlt : k < 8
    · have hc := (one_block HB.out (a + k)).trans (HC.out k hlt)
      have hdk := hd (a + k)
      go_wp2
      go_round
      case rel => exact ⟨k + 1, by omega, by go_num, by rw [or_shift (leVal_lt hd a k) hdk hlt]; rfl⟩
      case measure => simp [intOf]; omega
    · obtain rfl : k = 8 := by omega
      go_wp2
      go_ret2
      exact ⟨rfl, hb1⟩

end Go.Proofs.YtadmeeabbkpmlaaGreatDoor
