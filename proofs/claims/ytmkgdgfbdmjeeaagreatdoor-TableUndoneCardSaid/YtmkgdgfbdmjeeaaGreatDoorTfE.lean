/- Frames: math/bits.TrailingZeros64 by its own text, over its table as it is laid (after the guide's shelf text on it). -/
import Derived.Test.YtmkgdgfbdmjeeaaGreatDoorTfD
import Derived.Lib.TrailingZeros
namespace Go.Proofs.YtmkgdgfbdmjeeaaGreatDoor
open Go.RowKit
set_option linter.unusedSimpArgs false
set_option linter.unusedVariables false

theorem tz_key (x a : Nat) (hx : x < 18446744073709551616) (hx0 : x ≠ 0) (hlow : x &&& (18446744073709551616 - x) = a) :
    IntKind.u64.wrap (bits BinOp.and IntKind.u64 (x : Int) (IntKind.u64.wrap (-(x : Int))) * 285870213051353865) / 288230376151711744 = ((a * 285870213051353865 % 18446744073709551616 / 288230376151711744 : Nat) : Int) := by
  have e1 : IntKind.u64.wrap (-(x : Int)) = ((18446744073709551616 - x : Nat) : Int) := by rw [IntKind.wrap_u64]; omega
  rw [e1, bits_and_u64_nat x _ hx (by omega), hlow, IntKind.wrap_u64]
  omega

set_option maxHeartbeats 1000000 in
theorem tz_core (x k idx : Nat) (w : World) (hx0 : ((x : Int) == 0) = false)
    (key : IntKind.u64.wrap (bits BinOp.and IntKind.u64 (x : Int) (IntKind.u64.wrap (-(x : Int))) * 285870213051353865) / 288230376151711744 = (idx : Int))
    (hi : idx < 64) (hk : k < 64) (hcell : w.cell? ⟨0, idx, none⟩ = some (.int .u8 k)) :
    Calls Tryz.prog 95 #[.int .u64 x] w fun e w' => e = .returned (.int .i64 k) ∧ w = w' := by
  go_enter Tryz.func95, Tryz.ntmps95
  go_wp2_with (simp only [key])
  go_ret
  exact ⟨rfl, rfl⟩

/-- the lowest bit that is set -/
theorem tz_any (x : Nat) (hx : x < 18446744073709551616) (hx0 : x ≠ 0) (w : World) (hT : DB w) :
    Calls Tryz.prog 95 #[.int .u64 x] w fun e w' => e = .returned (.int .i64 (Lib.ctz 64 x : Nat)) ∧ w = w' := by
  obtain ⟨hlow, hk⟩ := Lib.lowest_bit 64 x hx0 hx
  obtain ⟨hi, htab⟩ := Lib.deBruijn64_at _ hk
  have hcell := hT _ hi
  rw [htab] at hcell
  exact tz_core x _ _ w (by simp; omega) (tz_key x _ hx hx0 hlow) hi hk hcell

theorem ctz_bits {x k : Nat} (hx : x < 18446744073709551616) (hk : k < 64) (h1 : x.testBit k = true) (h2 : ∀ j, j < k → x.testBit j = false) : Lib.ctz 64 x = k := by
  have hx0 : x ≠ 0 := fun e => by rw [e] at h1; simp at h1
  obtain ⟨m, hm, hk2⟩ := Lib.ctzFrom_spec 64 x (by omega) hx
  have e : Lib.ctz 64 x = Lib.ctzFrom 64 x := by simp [Lib.ctz, hx0]
  rw [e]
  generalize Lib.ctzFrom 64 x = c at hm hk2
  have t1 : x.testBit c = true := by
    rw [hm, Nat.mul_comm, Nat.testBit_mul_two_pow]
    simp
  have t2 : ∀ j, j < c → x.testBit j = false := fun j hj => by
    rw [hm, Nat.mul_comm, Nat.testBit_mul_two_pow]
    simp; omega
  rcases Nat.lt_trichotomy c k with h | h | h
  · rw [h2 c h] at t1; cases t1
  · exact h
  · rw [t2 k h] at h1; cases h1

end Go.Proofs.YtmkgdgfbdmjeeaaGreatDoor
