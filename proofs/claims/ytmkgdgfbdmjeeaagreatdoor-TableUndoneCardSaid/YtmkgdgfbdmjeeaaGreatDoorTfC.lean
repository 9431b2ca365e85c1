/- Frames: Down, Count, Free, Size, by their contracts. -/
import Derived.Test.YtmkgdgfbdmjeeaaGreatDoorTfB
namespace Go.Proofs.YtmkgdgfbdmjeeaaGreatDoor
open Go.RowKit
set_option linter.unusedSimpArgs false
set_option linter.unusedVariables false

theorem down_yes (a g : Nat) (w : World) (S : Nat → Prop) (p : Pool) (h : PoolAt w S a p) (hg : g < p.n) (h1 : 1 ≤ p.cnt g) :
    Calls Tryz.prog 49 #[.pointer (some ⟨a, 0, none⟩), .int .i64 g] w fun e w' => e = .returned (.int .i64 0) ∧ PoolAt w' S a (p.down g) ∧ Mod S w w' := by
  rcases Nat.lt_or_ge 1 (p.cnt g) with h2 | h2
  · exact down_more a g w S p h hg h2
  · exact down_last a g w S p h hg (by omega)

set_option maxHeartbeats 400000 in
theorem down_no (a : Nat) (f : Int) (w : World) (S : Nat → Prop) (p : Pool) (h : PoolAt w S a p) (ht : takenB p f = false) :
    Calls Tryz.prog 49 #[.pointer (some ⟨a, 0, none⟩), .int .i64 f] w fun e w' => e = .returned (.int .i64 1) ∧ w = w' := by
  have hT := fun W => taken_any a f W S p
  rw [ht] at hT
  have HT := Lib.hid hT
  clear hT ht
  go_enter Tryz.func49, Tryz.ntmps49
  go_wp2_with (go_at_call 85; refine (HT.out _ h).mono ?_; rintro e w1 ⟨rfl, rfl⟩)
  go_ret
  exact ⟨rfl, rfl⟩

def countB (p : Pool) (f : Int) : Nat := if takenB p f = true then p.cnt f.toNat else 0
theorem countB_nat {p : Pool} {g : Nat} (hg : g < p.n) : countB p (g : Int) = p.cnt g := by
  unfold countB
  rw [takenB_nat]
  by_cases h : 0 < p.cnt g
  · simp [hg, h]
  · simp [hg, h]; omega
theorem ret_int {k : IntKind} {a b : Int} (h : a = b) : Ending.returned (.int k a) = .returned (.int k b) := by rw [h]

set_option maxHeartbeats 400000 in
theorem count_any (a : Nat) (f : Int) (w : World) (S : Nat → Prop) (p : Pool) (h : PoolAt w S a p) :
    Calls Tryz.prog 26 #[.pointer (some ⟨a, 0, none⟩), .int .i64 f] w fun e w' => e = .returned (.int .i64 (countB p f : Int)) ∧ w = w' := by
  have hT := fun W => taken_any a f W S p
  have HP := Lib.hid h
  obtain ⟨⟨C, B, F, wd, pt, hi, hS⟩, hlow, _, _⟩ := h
  have h0 : w.cell? ⟨a, 0, none⟩ = some (.slice (some ⟨C, 0, none⟩) p.n p.n) := one_block hi.self 0
  have hn := hi.few.2
  cases ht : takenB p f with
  | true =>
    obtain ⟨g, rfl, hg, hpos⟩ := takenB_yes ht
    have hc := row_cell hi.counts hg
    have HC : Hid (countB p (g : Int) = p.cnt g) := Lib.hid (countB_nat hg)
    rw [ht] at hT
    have HT := Lib.hid hT
    clear hi hT ht hlow hS
    go_enter Tryz.func26, Tryz.ntmps26
    go_wp2_with (go_at_call 85; refine (HT.out _ HP.out).mono ?_; rintro e w1 ⟨rfl, rfl⟩)
    go_ret
    exact ⟨ret_int (by rw [HC.out]), rfl⟩
  | false =>
    have HC : Hid (countB p f = 0) := Lib.hid (by unfold countB; rw [ht]; rfl)
    rw [ht] at hT
    have HT := Lib.hid hT
    clear hi hT ht hlow hS
    go_enter Tryz.func26, Tryz.ntmps26
    go_wp2_with (go_at_call 85; refine (HT.out _ HP.out).mono ?_; rintro e w1 ⟨rfl, rfl⟩)
    go_ret
    exact ⟨ret_int (by rw [HC.out]; rfl), rfl⟩

set_option maxHeartbeats 400000 in
theorem pfree_any (a : Nat) (w : World) (S : Nat → Prop) (p : Pool) (h : PoolAt w S a p) :
    Calls Tryz.prog 28 #[.pointer (some ⟨a, 0, none⟩)] w fun e w' => e = .returned (.int .i64 (p.left : Int)) ∧ w = w' := by
  obtain ⟨⟨C, B, F, wd, pt, hi, hS⟩, hlow, _, _⟩ := h
  have h3 : w.cell? ⟨a, 3, none⟩ = some (.int .i64 (p.left : Int)) := one_block hi.self 3
  clear hi hS hlow
  go_enter Tryz.func28, Tryz.ntmps28
  go_wp2
  go_ret
  exact ⟨rfl, rfl⟩

set_option maxHeartbeats 400000 in
theorem psize_any (a : Nat) (w : World) (S : Nat → Prop) (p : Pool) (h : PoolAt w S a p) :
    Calls Tryz.prog 21 #[.pointer (some ⟨a, 0, none⟩)] w fun e w' => e = .returned (.int .i64 (p.n : Int)) ∧ w = w' := by
  obtain ⟨⟨C, B, F, wd, pt, hi, hS⟩, hlow, _, _⟩ := h
  have h0 : w.cell? ⟨a, 0, none⟩ = some (.slice (some ⟨C, 0, none⟩) p.n p.n) := one_block hi.self 0
  clear hi hS hlow
  go_enter Tryz.func21, Tryz.ntmps21
  go_wp2
  go_ret
  exact ⟨rfl, rfl⟩

end Go.Proofs.YtmkgdgfbdmjeeaaGreatDoor
