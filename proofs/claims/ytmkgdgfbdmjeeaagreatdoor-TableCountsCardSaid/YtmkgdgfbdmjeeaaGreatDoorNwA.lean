/- The cache's and the table's New, and the cache's Pool. -/
import Derived.Test.YtmkgdgfbdmjeeaaGreatDoorCaZ
import Derived.Test.YtmkgdgfbdmjeeaaGreatDoorTtZ
import Derived.Carry
namespace Go.Proofs.YtmkgdgfbdmjeeaaGreatDoor
open Go.RowKit Go.Sort
open Go.MapKept (Stamped)
set_option linter.unusedSimpArgs false
set_option linter.unusedVariables false

theorem cpool_any (c a fs m : Nat) (clock : Int) (w : World) (h : CacheSelf w c a fs m clock) : Calls Tryz.prog 66 #[.pointer (some ⟨c, 0, none⟩)] w fun e w' => e = .returned (.pointer (some ⟨a, 0, none⟩)) ∧ w = w' := by
  have c0 : w.cell? ⟨c, 0, none⟩ = some (.pointer (some ⟨a, 0, none⟩)) := one_block h 0
  clear h
  go_enter Tryz.func66, Tryz.ntmps66
  go_wp2_with fail
  go_ret
  exact ⟨rfl, rfl⟩

theorem cnew_any (a fs : Nat) (w : World) (S : Nat → Prop) (p : Pool) (h : PoolAt w S a p) : Calls Tryz.prog 37 #[.pointer (some ⟨a, 0, none⟩), .pointer (some ⟨fs, 0, none⟩)] w
    fun e w' => ∃ c m, e = .returned (.tuple #[.pointer (some ⟨c, 0, none⟩), .int .i64 0]) ∧ CacheAt w' S c a fs m 0 p [] ∧ Below w.heap.size w w' ∧ w.heap.size ≤ c ∧ w.heap.size ≤ m := by
  have HP := Lib.hid h
  clear h
  have hmm := @run_makeMap Tryz.prog
  go_enter Tryz.func37, Tryz.ntmps37
  go_wp2_with fail
  go_ret2
  have hb1 : Below w.heap.size w (w.alloc (.map #[] 0)) := (Below.refl _ _).alloc (Nat.le_refl _) _
  have hb : Below w.heap.size w ((w.alloc (.map #[] 0)).alloc (.cells #[.pointer (some ⟨a, 0, none⟩), .pointer (some ⟨fs, 0, none⟩), .map (some w.heap.size), .int .i64 0] 135)) := hb1.alloc (by simp) _
  have hl := HP.out.low
  refine ⟨w.heap.size + 1, w.heap.size, by simp, ⟨HP.out.below hb, ?_, ?_, fun e => by have := hl _ e; omega, fun e => by have := hl _ e; omega⟩, hb, by omega, Nat.le_refl _⟩
  · have := heap_alloc_new (w.alloc (.map #[] 0)) (.cells #[.pointer (some ⟨a, 0, none⟩), .pointer (some ⟨fs, 0, none⟩), .map (some w.heap.size), .int .i64 0] 135)
    simpa [CacheSelf] using this
  · refine ⟨#[], 0, ⟨?_, ?_, rfl, fun s hs => by cases hs⟩⟩
    · exact (Below.heap_alloc _ _ _ (by simp)).trans (heap_alloc_new w _)
    · exact Go.MapKept.stamped_empty 0

theorem tnew_nil (w : World) : Calls Tryz.prog 38 #[.pointer none] w fun e w' => e = .returned (.tuple #[.pointer none, .int .i64 2]) ∧ w = w' := by
  go_enter Tryz.func38, Tryz.ntmps38
  go_wp2_with fail
  go_ret2
  exact ⟨rfl, rfl⟩

theorem TakeRes.first {p p' : Pool} {L L' : List Slot} {r : Int} {f g : Nat} (h : TakeRes p L r f p' L') (hl : p.lowest = some g) : r = 0 ∧ f = g ∧ p' = p.takeAt g ∧ L' = L := by
  cases h with
  | free f h1 => rw [hl] at h1; injection h1 with h1; subst h1; exact ⟨rfl, rfl, rfl, rfl⟩
  | loose s h1 => rw [hl] at h1; cases h1
  | none h1 => rw [hl] at h1; cases h1

def TNewPost (w : World) (S : Nat → Prop) (c a fs m g : Nat) (clock : Int) (p : Pool) (L : List Slot) (e : Ending) (w' : World) : Prop :=
  ∃ t S', e = .returned (.tuple #[.pointer (some ⟨t, 0, none⟩), .int .i64 0]) ∧ CacheAt w' S' c a fs m clock (p.takeAt g) L ∧ TabSelf w' t c a g ∧ Mod (Both S m) w w' ∧ Out S S' w ∧ w.heap.size ≤ t ∧ ¬ S' t
set_option maxHeartbeats 1000000 in
theorem tnew_some (c a fs m g : Nat) (clock : Int) (w : World) (S : Nat → Prop) (p : Pool) (L : List Slot) (h : CacheAt w S c a fs m clock p L) (hl : p.lowest = some g) :
    Calls Tryz.prog 38 #[.pointer (some ⟨c, 0, none⟩)] w (TNewPost w S c a fs m g clock p L) := by
  have hcall := ctake_any c a fs m clock w S p L h
  have HC := Lib.hid hcall
  have HL := Lib.hid hl
  clear h hcall hl
  go_enter Tryz.func38, Tryz.ntmps38
  go_wp2_with fail
  refine HC.out.mono ?_
  rintro e w1 ⟨r, f, p', L', S', rfl, h1, h2, h3, h4⟩
  obtain ⟨rfl, rfl, rfl, rfl⟩ := h4.first HL.out
  have H1 := Lib.hid h1
  have H2 := Lib.hid h2
  have H3 := Lib.hid h3
  clear h1 h2 h3 h4
  go_wp2_with fail
  refine (cpool_any c a fs m clock _ H1.out.self).mono ?_
  rintro e w2 ⟨rfl, rfl⟩
  go_wp2_with fail
  go_ret2
  refine ⟨w1.heap.size, S', rfl, H1.out.below ((Below.refl _ _).alloc (Nat.le_refl _) _), heap_alloc_new _ _, H2.out.trans (fun b hb => .inr hb) (Mod.of ((Below.refl _ _).alloc (Nat.le_refl _) _)), H3.out, H2.out.size, fun e => by have := H1.out.pool.low _ e; omega⟩

end Go.Proofs.YtmkgdgfbdmjeeaaGreatDoor
