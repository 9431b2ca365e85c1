/- The table's methods at no table, and at one that was freed. -/
import Derived.Test.YtmkgdgfbdmjeeaaGreatDoorTvA
import Derived.Test.YtmkgdgfbdmjeeaaGreatDoorTtH
namespace Go.Proofs.YtmkgdgfbdmjeeaaGreatDoor
open Go.RowKit Go.Sort
set_option linter.unusedSimpArgs false
set_option linter.unusedVariables false

theorem TabGone.below {w w' : World} {P : Option Addr} (h : TabGone w P) (hb : Below w.heap.size w w') (hl : ∀ t, P = some ⟨t, 0, none⟩ → t < w.heap.size) : TabGone w' P := by
  cases P with
  | none => trivial
  | some ad =>
    obtain ⟨t, rfl, h1⟩ := h
    exact ⟨t, rfl, (hb.cell (p := ⟨t, 1, none⟩) (hl t rfl)).trans h1⟩
theorem TabGone.lt {w : World} {P : Option Addr} (h : TabGone w P) : ∀ t, P = some ⟨t, 0, none⟩ → t < w.heap.size := by
  intro t ht
  subst ht
  obtain ⟨t', h0, h1⟩ := h
  injection h0 with h0
  subst h0
  exact World.block_lt_of_cell? _ _ h1
theorem at_gone (P : Option Addr) (A : Int) (V : Value) (w : World) (h : TabGone w P) : Calls Tryz.prog 92 #[.pointer P, .int .u64 A, V] w fun e w' => e = .returned (.int .i64 2) ∧ w = w' := by
  have H := Lib.hid h
  clear h
  go_enter Tryz.func92, Tryz.ntmps92
  go_wp2_with fail
  refine (gone_any P _ H.out).mono ?_
  rintro e w1 ⟨rfl, rfl⟩
  go_wp2_with fail
  go_ret
  exact ⟨rfl, rfl⟩
theorem unmap_gone (P : Option Addr) (A : Int) (w : World) (h : TabGone w P) : Calls Tryz.prog 43 #[.pointer P, .int .u64 A] w fun e w' => e = .returned (.int .i64 2) ∧ Below w.heap.size w w' := by
  have hb := (Below.refl w.heap.size w).alloc (Nat.le_refl _) (.cells #[.pointer P] 54)
  have H := Lib.hid (h.below hb h.lt)
  clear h
  go_enter Tryz.func43, Tryz.ntmps43
  go_wp2_with fail
  refine (at_gone P A _ _ H.out).mono ?_
  rintro e w1 ⟨rfl, rfl⟩
  go_wp2_with fail
  go_ret
  exact ⟨rfl, hb⟩
theorem find_gone (P : Option Addr) (A : Int) (w : World) (h : TabGone w P) : Calls Tryz.prog 30 #[.pointer P, .int .u64 A] w fun e w' => e = .returned (.tuple #[.agg #[.int .i64 0, .int .u8 0, .bool false], .int .i64 2]) ∧ Below w.heap.size w w' := by
  obtain ⟨w0, hw0⟩ : ∃ w0, w0 = (((w.alloc (.cells #[.pointer P] 54)).alloc (.cells #[.int .i64 0, .int .u8 0, .bool false] 31)).alloc (.cells #[.int .i64 0, .int .u8 0, .bool false] 31)) := ⟨_, rfl⟩
  have hB0 : Below w.heap.size w w0 := by rw [hw0]; exact (((Below.refl _ _).alloc (Nat.le_refl _) _).alloc (by simp) _).alloc (by simp; omega) _
  have hs0 : w0.heap.size = w.heap.size + 1 + 1 + 1 := by rw [hw0]; simp
  have hR0 : LeafAt w0 (w.heap.size + 1) noLeaf := by
    rw [hw0]
    have e : (w.alloc (.cells #[.pointer P] 54)).heap.size = w.heap.size + 1 := by simp
    rw [← e]
    exact (Below.heap_alloc _ _ _ (by simp)).trans (heap_alloc_new _ _)
  have hL0 : LeafAt w0 (w.heap.size + 1 + 1) noLeaf := by
    rw [hw0]
    have e : ((w.alloc (.cells #[.pointer P] 54)).alloc (.cells #[.int .i64 0, .int .u8 0, .bool false] 31)).heap.size = w.heap.size + 1 + 1 := by simp
    rw [← e]
    exact heap_alloc_new _ _
  have H := Lib.hid (h.below hB0 h.lt)
  have HR0 := Lib.hid hR0
  have HL0 := Lib.hid hL0
  have hs0' : w.heap.size + 1 < w0.heap.size := by omega
  have HW0 := Lib.hid hw0
  clear h hR0 hL0 hw0 hs0
  go_enter Tryz.func30, Tryz.ntmps30
  go_wp2_with fail
  rw [← HW0.out]
  refine (at_gone P A _ _ H.out).mono ?_
  rintro e w2 ⟨rfl, rfl⟩
  have x0 : w0.cell? ⟨w.heap.size + 1 + 1, 0, none⟩ = some (.int .i64 0) := one_block HL0.out 0
  have x1 : w0.cell? ⟨w.heap.size + 1 + 1, 1, none⟩ = some (.int .u8 0) := one_block HL0.out 1
  have x2 : w0.cell? ⟨w.heap.size + 1 + 1, 2, none⟩ = some (.bool false) := one_block HL0.out 2
  have y0 : w0.cell? ⟨w.heap.size + 1, 0, none⟩ = some (.int .i64 0) := one_block HR0.out 0
  have y1 : w0.cell? ⟨w.heap.size + 1, 1, none⟩ = some (.int .u8 0) := one_block HR0.out 1
  have y2 : w0.cell? ⟨w.heap.size + 1, 2, none⟩ = some (.bool false) := one_block HR0.out 2
  have z0 := one_free HR0.out 0
  have z1 := one_free HR0.out 1
  have z2 := one_free HR0.out 2
  go_wp2_with fail
  exact bodyPost_ret (v := .tuple #[.agg #[.int .i64 0, .int .u8 0, .bool false], .int .i64 2]) (by simp [results, Tryz.results30, go_sem, hs0', y0, y1, y2, z0, z1, z2]) rfl ⟨rfl, ((hB0.setCell (by show w.heap.size ≤ w.heap.size + 1; omega) _).setCell (by show w.heap.size ≤ w.heap.size + 1; omega) _).setCell (by show w.heap.size ≤ w.heap.size + 1; omega) _⟩

theorem set_gone (P : Option Addr) (A fr q : Int) (cp : Bool) (w : World) (h : TabGone w P) : Calls Tryz.prog 44 #[.pointer P, .int .u64 A, .agg #[.int .i64 fr, .int .u8 q, .bool cp]] w fun e w' => e = .returned (.int .i64 2) ∧ Below w.heap.size w w' := by
  obtain ⟨w0, hw0⟩ : ∃ w0, w0 = (w.alloc (.cells #[.pointer P] 54)).alloc (.cells #[.int .i64 fr, .int .u8 q, .bool cp] 31) := ⟨_, rfl⟩
  have hB0 : Below w.heap.size w w0 := by rw [hw0]; exact ((Below.refl _ _).alloc (Nat.le_refl _) _).alloc (by simp) _
  have hP0 : w0.heap[w.heap.size]? = some (.cells #[.pointer P] 54 (0, 0)) := by rw [hw0]; exact (Below.heap_alloc _ _ _ (by simp)).trans (heap_alloc_new w _)
  have hlt := (Array.getElem?_eq_some_iff.1 hP0).1
  have H := h.below hB0 h.lt
  have d0 : ∀ d os, (grow (redrawn w0 d) os).cell? ⟨w.heap.size, 0, none⟩ = some (.pointer P) := fun d os => cell_regrown (one_block hP0 0) d os
  have hG := fun d os => Calls.regrown_of ((gone_any P (grow (redrawn w0 d) os) (H.below (below_regrown w0 d os) H.lt)).mono fun _ _ ⟨h1, h2⟩ => ⟨h1, h2 ▸ Below.refl _ _⟩)
  have HG := Lib.hid hG
  have HH := Lib.hid H
  have HP0 := Lib.hid hP0
  have HW0 := Lib.hid hw0
  clear h H hG hP0 hw0
  go_enter Tryz.func44, Tryz.ntmps44
  go_upto_region 1 with (fail)
  rw [← HW0.out]
  refine wp_region_quiet_below (by kernel_rfl) (by kernel_rfl) ?_; (repeat (go_big_quiet_step ((exact HG.out _ _)))); refine wpQuiet_nil ?_; intro _ hw'; obtain ⟨⟨dq, osq⟩, hw''⟩ := hw'; subst hw''; have hbq := below_regrown (w0) dq osq; generalize grow (redrawn (w0) dq) osq = wq at hbq ⊢
  clear d0
  have c0 : wq.cell? ⟨w.heap.size, 0, none⟩ = some (.pointer P) := (hbq.cell (p := ⟨w.heap.size, 0, none⟩) hlt).trans (one_block HP0.out 0)
  have H2 := Lib.hid (HH.out.below hbq HH.out.lt)
  go_wp2_with fail
  refine (at_gone P A _ _ H2.out).mono ?_
  rintro e w2 ⟨rfl, rfl⟩
  go_wp2_with fail
  go_ret
  exact ⟨rfl, hB0.trans (hbq.mono hB0.size)⟩
theorem map_gone (P : Option Addr) (A fr q : Int) (cp : Bool) (w : World) (h : TabGone w P) : Calls Tryz.prog 29 #[.pointer P, .int .u64 A, .agg #[.int .i64 fr, .int .u8 q, .bool cp]] w fun e w' => e = .returned (.int .i64 2) ∧ Below w.heap.size w w' := by
  have hb := (Below.refl w.heap.size w).alloc (Nat.le_refl _) (.cells #[.int .i64 fr, .int .u8 q, .bool cp] 31)
  have H := Lib.hid (h.below hb h.lt)
  clear h
  go_enter Tryz.func29, Tryz.ntmps29
  go_wp2_with fail
  refine (gone_any P _ H.out).mono ?_
  rintro e w1 ⟨rfl, rfl⟩
  go_wp2_with fail
  go_ret
  exact ⟨rfl, hb⟩

end Go.Proofs.YtmkgdgfbdmjeeaaGreatDoor
