/- Words: the checks of Get and Set at eight bytes. -/
import Derived.Test.YtmkgdgfbdmjeeaaDoorTfG
namespace Go.Proofs.YtmkgdgfbdmjeeaaDoor
open Go.RowKit
set_option linter.unusedSimpArgs false
set_option linter.unusedVariables false

set_option maxHeartbeats 400000 in
theorem index_8 (g : Nat) (w : World) (h0 : w.cell? ⟨g, 0, none⟩ = some (.int .i64 1)) (h1 : w.cell? ⟨g, 1, none⟩ = some (.int .i64 2)) (h2 : w.cell? ⟨g, 2, none⟩ = some (.int .i64 4)) (h3 : w.cell? ⟨g, 3, none⟩ = some (.int .i64 8)) :
    Calls Tryd.prog 131 #[.slice (some ⟨g, 0, none⟩) 4 4, .int .i64 8] w fun e w' => e = .returned (.int .i64 3) ∧ w = w' := by
  go_enter Tryd.func131, Tryd.ntmps131
  go_wp2
  go_loop [8] (fun i => ∃ k : Nat, k ≤ 3 ∧ i = .int .i64 k) (fun i => 4 - (intOf i).toNat)
  case atStart => exact ⟨0, Nat.zero_le _, rfl⟩
  case round =>
    obtain ⟨k, hk, rfl⟩ := hrel
    rcases (show k = 0 ∨ k = 1 ∨ k = 2 ∨ k = 3 by omega) with rfl | rfl | rfl | rfl
    · go_wp2
      go_round
      case rel => exact ⟨1, by omega, by go_num⟩
      case measure => simp [intOf]
    · go_wp2
      go_round
      case rel => exact ⟨2, by omega, by go_num⟩
      case measure => simp [intOf]
    · go_wp2
      go_round
      case rel => exact ⟨3, by omega, by go_num⟩
      case measure => simp [intOf]
    · go_wp2
      go_ret
      exact ⟨rfl, rfl⟩

set_option maxHeartbeats 400000 in
theorem contains_8 (g : Nat) (w : World) (h0 : w.cell? ⟨g, 0, none⟩ = some (.int .i64 1)) (h1 : w.cell? ⟨g, 1, none⟩ = some (.int .i64 2)) (h2 : w.cell? ⟨g, 2, none⟩ = some (.int .i64 4)) (h3 : w.cell? ⟨g, 3, none⟩ = some (.int .i64 8)) :
    Calls Tryd.prog 125 #[.slice (some ⟨g, 0, none⟩) 4 4, .int .i64 8] w fun e w' => e = .returned (.bool true) ∧ w = w' := by
  go_enter Tryd.func125, Tryd.ntmps125
  go_wp2_with (go_at_call 131; refine (index_8 g _ h0 h1 h2 h3).mono ?_; rintro e w1 ⟨rfl, rfl⟩)
  go_ret
  exact ⟨rfl, rfl⟩

set_option maxHeartbeats 400000 in
theorem sized_8 (w : World) : Calls Tryd.prog 111 #[.int .i64 8] w fun e w' => e = .returned (.bool true) ∧ Below w.heap.size w w' := by
  go_enter Tryd.func111, Tryd.ntmps111
  go_wp2_with (go_at_call 125; refine (contains_8 w.heap.size _ (by simp) (by simp) (by simp) (by simp)).mono ?_; rintro e w1 ⟨rfl, rfl⟩)
  go_ret
  exact ⟨rfl, (Below.refl _ _).alloc (Nat.le_refl _) _⟩

theorem not_8 : bits .xor .u64 (if IntKind.u64.signed = true then -1 else IntKind.u64.max) 8 = 18446744073709551607 := by decide +kernel
theorem no_8 (a : Nat) (ha : a ≤ 1000000) : ¬ bits .xor .u64 (if IntKind.u64.signed = true then -1 else IntKind.u64.max) 8 < (a : Int) := by
  rw [not_8]
  omega
set_option maxHeartbeats 400000 in
theorem add_8 (a : Nat) (w : World) (ha : a ≤ 1000000) : Calls Tryd.prog 126 #[.int .u64 (a : Int), .int .u64 8] w fun e w' => e = .returned (.tuple #[.int .u64 ((a : Int) + 8), .bool true]) ∧ w = w' := by
  have hno := no_8 a ha
  go_enter Tryd.func126, Tryd.ntmps126
  go_wp2
  all_goals
    go_ret2
    exact ⟨rfl, rfl⟩

set_option maxHeartbeats 400000 in
theorem inside_8 (a n : Nat) (w : World) (ha : a + 8 ≤ n) (hn : n ≤ 1000000) : Calls Tryd.prog 112 #[.int .u64 (a : Int), .int .u64 8, .int .u64 (n : Int)] w fun e w' => e = .returned (.bool true) ∧ w = w' := by
  have hle : decide ((a : Int) + 8 ≤ (n : Int)) = true := decide_eq_true (by omega)
  go_enter Tryd.func112, Tryd.ntmps112
  go_wp2_with (go_at_call 126; refine (add_8 a _ (by omega)).mono ?_; rintro e w1 ⟨rfl, rfl⟩)
  go_ret
  exact ⟨rfl, rfl⟩

set_option maxHeartbeats 400000 in
theorem check_8 (a n c : Nat) (A : Option Addr) (w : World) (ha : a + 8 ≤ n) (hn : n ≤ 1000000) : Calls Tryd.prog 96 #[.slice A n c, .int .u64 (a : Int), .int .i64 8] w fun e w' => e = .returned (.int .i64 0) ∧ Below w.heap.size w w' := by
  go_enter Tryd.func96, Tryd.ntmps96
  go_wp2_with (first
    | (go_at_call 111; refine (sized_8 _).mono ?_; rintro e w1 ⟨rfl, hb1⟩)
    | (go_at_call 112; refine (inside_8 a n _ ha hn).mono ?_; rintro e w1 ⟨rfl, rfl⟩))
  go_ret
  exact ⟨rfl, hb1⟩

set_option maxHeartbeats 1000000 in
theorem get_8 (a n c b : Nat) (d : Nat → Nat) (w : World) (ha : a + 8 ≤ n) (hn : n ≤ 1000000) (hb : BytesAt w b n d) (hd : ∀ i, d i < 256) (hbw : b < w.heap.size) :
    Calls Tryd.prog 88 #[.slice (some ⟨b, 0, none⟩) n c, .int .u64 (a : Int), .int .i64 8] w fun e w' => e = .returned (.tuple #[.int .u64 ((leVal d a 8 : Nat) : Int), .int .i64 0]) ∧ Below w.heap.size w w' := by
  go_enter Tryd.func88, Tryd.ntmps88
  go_wp2_with (go_at_call 96; refine (check_8 a n c _ _ ha hn).mono ?_; rintro e w1 ⟨rfl, hb1⟩)
  have hB : BytesAt w1 b n d := (hb1.block b hbw).trans hb
  have HB := Lib.hid hB
  clear hB hb
  go_loop [6, 18] (fun x i => ∃ k : Nat, k ≤ 8 ∧ i = .int .i64 k ∧ x = .int .u64 ((leVal d a k : Nat) : Int)) (fun _ i => 8 - (intOf i).toNat)
  case atStart => exact ⟨0, Nat.zero_le _, rfl, rfl⟩
  case round =>
    obtain ⟨k, hk, rfl, rfl⟩ := hrel
    by_cases hlt : k < 8
    · have hc := row_cell HB.out (i := a + k) (by omega)
      have hdk := hd (a + k)
      go_wp2
      go_round
      case rel => exact ⟨k + 1, by omega, by go_num, by rw [or_shift (leVal_lt hd a k) hdk hlt]; rfl⟩
      case measure => simp [intOf]; omega
    · obtain rfl : k = 8 := by omega
      go_wp2
      go_ret2
      exact ⟨rfl, hb1⟩

end Go.Proofs.YtmkgdgfbdmjeeaaDoor
