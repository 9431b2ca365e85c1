/- No cache: what each method answers. A cache over nothing. Files of no entries. -/
import Derived.Test.YtmkgdgfbdmjeeaaDoorNwA
import Derived.Test.YtmkgdgfbdmjeeaaDoorVfB
namespace Go.Proofs.YtmkgdgfbdmjeeaaDoor
open Go.RowKit Go.Sort
set_option linter.unusedSimpArgs false
set_option linter.unusedVariables false

theorem ctake_nil (w : World) : Calls Tryd.prog 35 #[.pointer none] w fun e w' => e = .returned (.tuple #[.int .i64 0, .int .i64 2]) ∧ w' = w := by
  go_enter Tryd.func35, Tryd.ntmps35
  go_wp2_with fail
  go_ret2
  exact ⟨rfl, rfl⟩
theorem cget_nil (i p : Int) (w : World) : Calls Tryd.prog 36 #[.pointer none, .int .i64 i, .int .i64 p] w fun e w' => e = .returned (.tuple #[.int .i64 0, .int .i64 2]) ∧ w' = w := by
  go_enter Tryd.func36, Tryd.ntmps36
  go_wp2_with fail
  go_ret2
  exact ⟨rfl, rfl⟩
theorem cdrop_nil (w : World) : Calls Tryd.prog 28 #[.pointer none] w fun e w' => e = .returned (.tuple #[]) ∧ w' = w := by
  go_enter Tryd.func28, Tryd.ntmps28
  go_wp2_with fail
  (try simp only [Exit.inBlock, Exit.then])
  refine bodyPost_ret (results_none rfl _ _ _) rfl ?_
  exact ⟨rfl, rfl⟩
theorem cslots_nil (w : World) : Calls Tryd.prog 40 #[.pointer none] w fun e w' => e = .returned (.slice none 0 0) ∧ w' = w := by
  go_enter Tryd.func40, Tryd.ntmps40
  go_wp2_with fail
  go_ret
  exact ⟨rfl, rfl⟩
theorem cpool_nil (w : World) : Calls Tryd.prog 41 #[.pointer none] w fun e w' => e = .returned (.pointer none) ∧ w' = w := by
  go_enter Tryd.func41, Tryd.ntmps41
  go_wp2_with fail
  go_ret
  exact ⟨rfl, rfl⟩
theorem cfiles_nil (w : World) : Calls Tryd.prog 42 #[.pointer none] w fun e w' => e = .returned (.pointer none) ∧ w' = w := by
  go_enter Tryd.func42, Tryd.ntmps42
  go_wp2_with fail
  go_ret
  exact ⟨rfl, rfl⟩
theorem cnew_nil1 (v : Option Addr) (w : World) : Calls Tryd.prog 39 #[.pointer none, .pointer v] w fun e w' => e = .returned (.tuple #[.pointer none, .int .i64 2]) ∧ w' = w := by
  go_enter Tryd.func39, Tryd.ntmps39
  go_wp2_with fail
  go_ret2
  exact ⟨rfl, rfl⟩
theorem cnew_nil2 (a : Addr) (w : World) : Calls Tryd.prog 39 #[.pointer (some a), .pointer none] w fun e w' => e = .returned (.tuple #[.pointer none, .int .i64 2]) ∧ w' = w := by
  go_enter Tryd.func39, Tryd.ntmps39
  go_wp2_with fail
  go_ret2
  exact ⟨rfl, rfl⟩
theorem cnew_nil (x y : Option Addr) (h : x = none ∨ y = none) (w : World) : Calls Tryd.prog 39 #[.pointer x, .pointer y] w fun e w' => e = .returned (.tuple #[.pointer none, .int .i64 2]) ∧ w' = w := by
  rcases h with rfl | rfl
  · exact cnew_nil1 y w
  · cases x with
    | none => exact cnew_nil1 none w
    | some a => exact cnew_nil2 a w
set_option maxRecDepth 100000 in
set_option maxHeartbeats 2000000 in
/-- Files of no entries: a root alone. -/
theorem vnew_nil (w : World) : Calls Tryd.prog 38 #[.slice none 0 0] w fun e w' => ∃ fs, e = .returned (.tuple #[.pointer (some fs), .int .i64 0, .int .i64 0]) ∧ Below w.heap.size w w' := by
  obtain ⟨w0, hw0⟩ : ∃ w0, w0 = ((((w.alloc (.map #[] 0)).alloc (.cells #[.int .u8 2, .int .u16 493, .int .u32 0, .int .u32 0, .int .i64 0, .int .i64 0, .pointer (some ⟨w.heap.size + 1, 0, none⟩), .string ⟨#[]⟩, .map (some w.heap.size)] 151)).alloc (.cells #[.iface 146 (.pointer (some ⟨w.heap.size + 1, 0, none⟩))] 164)).alloc (.cells #[.slice (some ⟨w.heap.size + 1 + 1, 0, none⟩) 1 1] 154)) := ⟨_, rfl⟩
  have hb0 : Below w.heap.size w w0 := by
    rw [hw0]
    exact ((((Below.refl _ _).alloc (Nat.le_refl _) _).alloc (by simp) _).alloc (by simp; omega) _).alloc (by simp; omega) _
  have HW0 := Lib.hid hw0
  have HB0 := Lib.hid hb0
  have hmm := @run_makeMap Tryd.prog
  clear hw0 hb0
  go_enter Tryd.func38, Tryd.ntmps38
  go_upto_region 6 with (fail)
  rw [← HW0.out]
  go_wp2_with fail
  go_loopw [30] (fun i wr => i = .int .i64 0 ∧ wr = w0) (fun i _ => 1 - (intOf i).toNat)
  case atStart => exact ⟨rfl, rfl⟩
  case round =>
    obtain ⟨rfl, rfl⟩ := hrel
    go_wp2_with fail
    go_ret3
    exact ⟨_, rfl, HB0.out⟩

end Go.Proofs.YtmkgdgfbdmjeeaaDoor
