/- Frames: bits in words of 64 bits. No program. -/
import Derived.Laws.Bits64b
import Derived.Laws.BitsAllLaws
import Derived.Lib.Hide
namespace Go.Proofs.YtmkgdgfbdmjeeaaGreatDoor
set_option linter.unusedSimpArgs false
set_option linter.unusedVariables false

theorem pow_lt64 {j : Nat} (hj : j < 64) : 2 ^ j < 18446744073709551616 := by
  have : 2 ^ j < 2 ^ 64 := Nat.pow_lt_pow_right (by decide) hj
  exact this
theorem wrap_pow {j : Nat} (hj : j < 64) : IntKind.u64.wrap ((2 : Int) ^ j) = ((2 ^ j : Nat) : Int) := by
  rw [IntKind.wrap_u64]
  have h := pow_lt64 hj
  have e : ((2 : Int) ^ j) = ((2 ^ j : Nat) : Int) := by simp
  rw [e]
  clear e
  generalize 2 ^ j = m at h ⊢
  omega
theorem or_bit {x j : Nat} (hx : x < 18446744073709551616) (hj : j < 64) : bits .or .u64 (x : Int) (IntKind.u64.wrap ((2 : Int) ^ j)) = ((x ||| 2 ^ j : Nat) : Int) := by
  rw [wrap_pow hj, bits_or_u64_nat x (2 ^ j) hx (pow_lt64 hj)]
theorem or_lt {x j : Nat} (hx : x < 18446744073709551616) (hj : j < 64) : x ||| 2 ^ j < 18446744073709551616 := by
  have : x ||| 2 ^ j < 2 ^ 64 := Nat.or_lt_two_pow hx (pow_lt64 hj)
  exact this
theorem or_test (x j i : Nat) : (x ||| 2 ^ j).testBit i = (x.testBit i || decide (j = i)) := by
  rw [Nat.testBit_or, Nat.testBit_two_pow]
theorem clr_bit {x j : Nat} (hx : x < 18446744073709551616) (hj : j < 64) : bits .andNot .u64 (x : Int) (IntKind.u64.wrap ((2 : Int) ^ j)) = ((x &&& (18446744073709551615 - 2 ^ j) : Nat) : Int) := by
  rw [wrap_pow hj, u64_andNot_nat x (2 ^ j) hx (pow_lt64 hj)]
theorem clr_lt {x j : Nat} (hx : x < 18446744073709551616) : x &&& (18446744073709551615 - 2 ^ j) < 18446744073709551616 := Nat.lt_of_le_of_lt Nat.and_le_left hx
theorem clr_test {x j i : Nat} (hj : j < 64) (hi : i < 64) : (x &&& (18446744073709551615 - 2 ^ j)).testBit i = (x.testBit i && !decide (j = i)) := by
  rw [Nat.testBit_and]
  congr 1
  have h := Nat.testBit_two_pow_sub_succ (x := 2 ^ j) (n := 64) (pow_lt64 hj) i
  rw [show (2 : Nat) ^ 64 - (2 ^ j + 1) = 18446744073709551615 - 2 ^ j from by
    have := pow_lt64 hj
    have e : (2 : Nat) ^ 64 = 18446744073709551616 := by decide
    rw [e]
    omega] at h
  rw [h, Nat.testBit_two_pow]
  simp [hi]
theorem or_shift {x b k : Nat} (hx : x < 256 ^ k) (hb : b < 256) (hk : k < 8) : bits .or .u64 (x : Int) (IntKind.u64.wrap ((b : Int) * (2 : Int) ^ (8 * k))) = ((x + b * 256 ^ k : Nat) : Int) := by
  have e : (2 : Nat) ^ (8 * k) = 256 ^ k := by rw [Nat.pow_mul]
  have e2 : ((2 : Int) ^ (8 * k)) = ((256 ^ k : Nat) : Int) := by
    rw [← e]; simp
  have h256 : (256 : Nat) ^ k * 256 ≤ 18446744073709551616 := by
    have : (256 : Nat) ^ (k + 1) ≤ 256 ^ 8 := Nat.pow_le_pow_right (by decide) (by omega)
    rw [Nat.pow_succ] at this
    have e3 : (256 : Nat) ^ 8 = 18446744073709551616 := by decide
    omega
  have hb2 : b * 256 ^ k ≤ 255 * 256 ^ k := Nat.mul_le_mul_right _ (by omega)
  have hpos : 0 < 256 ^ k := Nat.pow_pos (by decide)
  rw [e2, show ((b : Int) * ((256 ^ k : Nat) : Int)) = ((b * 256 ^ k : Nat) : Int) from by simp]
  have hor : x ||| b * 256 ^ k = x + b * 256 ^ k := by
    rw [← e] at hx ⊢
    rw [Nat.or_comm, Nat.mul_comm b, ← Nat.two_pow_add_eq_or_of_lt hx, Nat.add_comm]
  generalize hm : b * 256 ^ k = m at *
  generalize 256 ^ k = q at *
  have hw : IntKind.u64.wrap (m : Int) = (m : Int) := by rw [IntKind.wrap_u64]; omega
  rw [hw, bits_or_u64_nat x m (by omega) (by omega), hor]
end Go.Proofs.YtmkgdgfbdmjeeaaGreatDoor
