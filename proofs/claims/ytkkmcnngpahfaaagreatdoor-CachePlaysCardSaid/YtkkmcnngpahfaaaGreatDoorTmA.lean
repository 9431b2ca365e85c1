/- Tables: Map, refused. Tables: Map looks whether a leaf is there. -/
import Derived.Test.YtkkmcnngpahfaaaGreatDoorCaZ
import Derived.Test.YtkkmcnngpahfaaaGreatDoorTuA
import Derived.Test.YtkkmcnngpahfaaaGreatDoorTtH

namespace Go.Proofs.YtkkmcnngpahfaaaGreatDoor
open Go.RowKit Go.Sort
set_option linter.unusedSimpArgs false
set_option linter.unusedVariables false

def MapBad (p : Pool) (A fr q : Int) : Prop := 140737488355328 ≤ A ∨ A % 4096 ≠ 0 ∨ 7 < q ∨ countB p fr = 0
theorem leafBox {w : World} {fr q : Int} {cp : Bool} : (w.alloc (.cells #[.int .i64 fr, .int .u8 q, .bool cp] 31)).heap[w.heap.size]? = some (.cells #[.int .i64 fr, .int .u8 q, .bool cp] 31 (0, 0)) := heap_alloc_new w _

set_option maxRecDepth 100000 in
set_option maxHeartbeats 4000000 in
theorem tmap_bad (t c a root : Nat) (A fr q : Int) (cp : Bool) (w : World) (S : Nat → Prop) (p : Pool) (h : PoolAt w S a p) (ht : TabSelf w t c a root) (hbad : MapBad p A fr q) (hA0 : 0 ≤ A) :
    Calls Tryz.prog 20 #[.pointer (some ⟨t, 0, none⟩), .int .u64 A, .agg #[.int .i64 fr, .int .u8 q, .bool cp]] w fun e w' => e = .returned (.int .i64 1) ∧ Below w.heap.size w w' := by
  have htw : t < w.heap.size := (Array.getElem?_eq_some_iff.1 ht).1
  obtain ⟨w0, hw0⟩ : ∃ w0, w0 = w.alloc (.cells #[.int .i64 fr, .int .u8 q, .bool cp] 31) := ⟨_, rfl⟩
  have hB0 : Below w.heap.size w w0 := by rw [hw0]; exact (Below.refl _ _).alloc (Nat.le_refl _) _
  have hL0 : w0.heap[w.heap.size]? = some (.cells #[.int .i64 fr, .int .u8 q, .bool cp] 31 (0, 0)) := by rw [hw0]; exact leafBox
  have hT0 : TabSelf w0 t c a root := (hB0.block t htw).trans ht
  have d1 : ∀ d os, (grow (redrawn w0 d) os).cell? ⟨w.heap.size, 0, none⟩ = some (.int .i64 fr) := fun d os => cell_regrown (one_block hL0 0) d os
  have d2 : ∀ d os, (grow (redrawn w0 d) os).cell? ⟨w.heap.size, 1, none⟩ = some (.int .u8 q) := fun d os => cell_regrown (one_block hL0 1) d os
  have d3 : ∀ d os, (grow (redrawn w0 d) os).cell? ⟨t, 1, none⟩ = some (.pointer (some ⟨a, 0, none⟩)) := fun d os => cell_regrown (one_block hT0 1) d os
  have hC := fun d os => Calls.regrown_of ((count_any a fr (grow (redrawn w0 d) os) S p ((h.below hB0).below (below_regrown w0 d os))).mono fun _ _ ⟨h1, h2⟩ => ⟨h1, h2 ▸ Below.refl _ _⟩)
  have htm : A.tmod 4096 = A % 4096 := Int.tmod_eq_emod_of_nonneg hA0
  have HTM := Lib.hid htm
  have HA0 := Lib.hid hA0
  have HC := Lib.hid hC
  have HW0 := Lib.hid hw0
  have HT0 := Lib.hid hT0
  clear hw0 h ht hL0 hC hT0 htm hA0
  by_cases h1 : 140737488355328 ≤ A
  · have g1 : decide (140737488355328 ≤ A) = true := decide_eq_true h1
    clear hbad
    (
    go_enter Tryz.func20, Tryz.ntmps20
    go_upto_region 1 with (fail)
    rw [← HW0.out]
    go_wp2_with fail
    refine (tgone_any t c a root _ HT0.out).mono ?_
    rintro e w1 ⟨rfl, rfl⟩
    go_upto_region 3 with (fail)
    refine wp_region_quiet_below (by kernel_rfl) (by kernel_rfl) ?_; (repeat (go_big_quiet_step ((exact HC.out _ _)))); refine wpQuiet_nil ?_; intro _ hw'; obtain ⟨⟨dq, osq⟩, hw''⟩ := hw'; subst hw''; have hbq := below_regrown (w0) dq osq; generalize grow (redrawn (w0) dq) osq = wq at hbq ⊢
    clear d1 d2 d3
    go_wp2_with fail
    go_ret
    exact ⟨rfl, hB0.trans (hbq.mono hB0.size)⟩)
  have g1 : decide (140737488355328 ≤ A) = false := decide_eq_false h1
  by_cases h2 : A % 4096 = 0
  · have g2 : (A.tmod 4096 != 0) = false := by rw [HTM.out, h2]; rfl
    by_cases h3 : 7 < q
    · have g3 : decide (7 < q) = true := decide_eq_true h3
      clear hbad
      (
    go_enter Tryz.func20, Tryz.ntmps20
    go_upto_region 1 with (fail)
    rw [← HW0.out]
    go_wp2_with fail
    refine (tgone_any t c a root _ HT0.out).mono ?_
    rintro e w1 ⟨rfl, rfl⟩
    go_upto_region 3 with (fail)
    refine wp_region_quiet_below (by kernel_rfl) (by kernel_rfl) ?_; (repeat (go_big_quiet_step ((exact HC.out _ _)))); refine wpQuiet_nil ?_; intro _ hw'; obtain ⟨⟨dq, osq⟩, hw''⟩ := hw'; subst hw''; have hbq := below_regrown (w0) dq osq; generalize grow (redrawn (w0) dq) osq = wq at hbq ⊢
    clear d1 d2 d3
    go_wp2_with fail
    go_ret
    exact ⟨rfl, hB0.trans (hbq.mono hB0.size)⟩)
    · have g3 : decide (7 < q) = false := decide_eq_false h3
      have h4 : countB p fr = 0 := by
        rcases hbad with h | h | h | h
        · exact absurd h h1
        · exact absurd h2 h
        · exact absurd h h3
        · exact h
      have g4 : (((countB p fr : Nat) : Int) == 0) = true := by rw [h4]; rfl
      clear hbad h4
      (
    go_enter Tryz.func20, Tryz.ntmps20
    go_upto_region 1 with (fail)
    rw [← HW0.out]
    go_wp2_with fail
    refine (tgone_any t c a root _ HT0.out).mono ?_
    rintro e w1 ⟨rfl, rfl⟩
    go_upto_region 3 with (fail)
    refine wp_region_quiet_below (by kernel_rfl) (by kernel_rfl) ?_; (repeat (go_big_quiet_step ((exact HC.out _ _)))); refine wpQuiet_nil ?_; intro _ hw'; obtain ⟨⟨dq, osq⟩, hw''⟩ := hw'; subst hw''; have hbq := below_regrown (w0) dq osq; generalize grow (redrawn (w0) dq) osq = wq at hbq ⊢
    clear d1 d2 d3
    go_wp2_with fail
    go_ret
    exact ⟨rfl, hB0.trans (hbq.mono hB0.size)⟩)
  · have g2 : (A.tmod 4096 != 0) = true := by rw [HTM.out, bne_iff_ne]; exact h2
    clear hbad
    (
    go_enter Tryz.func20, Tryz.ntmps20
    go_upto_region 1 with (fail)
    rw [← HW0.out]
    go_wp2_with fail
    refine (tgone_any t c a root _ HT0.out).mono ?_
    rintro e w1 ⟨rfl, rfl⟩
    go_upto_region 3 with (fail)
    refine wp_region_quiet_below (by kernel_rfl) (by kernel_rfl) ?_; (repeat (go_big_quiet_step ((exact HC.out _ _)))); refine wpQuiet_nil ?_; intro _ hw'; obtain ⟨⟨dq, osq⟩, hw''⟩ := hw'; subst hw''; have hbq := below_regrown (w0) dq osq; generalize grow (redrawn (w0) dq) osq = wq at hbq ⊢
    clear d1 d2 d3
    go_wp2_with fail
    go_ret
    exact ⟨rfl, hB0.trans (hbq.mono hB0.size)⟩)

end Go.Proofs.YtkkmcnngpahfaaaGreatDoor

namespace Go.Proofs.YtkkmcnngpahfaaaGreatDoor
open Go.RowKit Go.Sort
set_option linter.unusedSimpArgs false
set_option linter.unusedVariables false

theorem map1_any (f k : Int) (w : World) : Calls Tryz.prog 76 #[.int .i64 f, .int .i64 k] w fun e w' => e = .returned (.bool false) ∧ w' = w := by
  go_enter Tryz.func76, Tryz.ntmps76
  go_wp2_with fail
  go_ret
  exact ⟨rfl, rfl⟩
theorem descend_there (t c a root pg : Nat) (w : World) (S : Nat → Prop) (p : Pool) (T : Tab) (h : PoolAt w S a p) (ht : TabSelf w t c a root) (hw : Tree p T root) (hpg : pg < pagesN) :
    Calls Tryz.prog 75 #[.pointer (some ⟨t, 0, none⟩), .int .i64 (root : Int), wayA pg, .int .i64 0, .func (.func 76) #[] #[]] w
      fun e w' => e = .returned (.tuple #[.bool (T.lf pg).isSome, .bool false]) ∧ Below w.heap.size w w' := by
  have htw : t < w.heap.size := (Array.getElem?_eq_some_iff.1 ht).1
  have hr : T.nd 4 (part pg 4) = some root := by rw [part_four pg hpg]; exact hw.root
  cases hl : T.lf pg with
  | none => exact (descend_none4 t c a root root pg _ w S p T h ht htw (hw.way pg) hl hr).mono fun e w' ⟨he, hb⟩ => ⟨he, hb⟩
  | some l =>
    obtain ⟨q1, hq1⟩ := isSome_of (hw.ups pg l hl 1 (by omega) (by omega))
    exact (descend_yes (bt := 0) (bl := 0) (.inl ⟨rfl, rfl⟩) t c a root root pg (fun w1 w2 => w2 = w1) w S p T h ht htw (hw.way pg) (hw.ups pg l hl) l q1 hl hq1 (fun w1 _ => map1_any _ _ w1) hr).mono fun e w' ⟨he, w1, hb, hR⟩ => ⟨he, by rw [hR]; exact hb⟩

end Go.Proofs.YtkkmcnngpahfaaaGreatDoor
