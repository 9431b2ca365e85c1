/- What is done with a table: does, map. What is done with a table: does, unmap. What is done with a table: does, set. -/
import Derived.Test.YtmkgdgfbdmjeeaaGreatDoorTsC

namespace Go.Proofs.YtmkgdgfbdmjeeaaGreatDoor
open Go.RowKit Go.Sort
set_option linter.unusedSimpArgs false
set_option linter.unusedVariables false

set_option maxRecDepth 100000 in
set_option maxHeartbeats 4000000 in
theorem does_map (B o a c fs m t root n k : Nat) (A fr q N : Int) (cp : Bool) (w : World) (S : Nat → Prop) (s : Sta) (H : Option Addr) (cap : Nat) (h : RunAt w B o a c fs m t root S s H cap) (hf : s.Fine root n k) (hk : k ≤ 100000) (hop : (Op.mk 0 A fr q cp N).Ok) :
    Calls Tryz.prog 11 #[.pointer (some ⟨o, 0, none⟩), .agg #[.int .i64 0, .int .u64 A, .int .i64 fr, .int .u8 q, .bool cp, .int .i64 N]] w (DoesPost w B o a c fs m t root S H ⟨0, A, fr, q, cp, N⟩ s) := by
  have hO := h.own
  obtain ⟨l1, l2, l3, l4, l5⟩ := h.lts
  have hpos := hO.cache.pool.pos
  obtain ⟨w0, hw0⟩ : ∃ w0, w0 = ((w.alloc (.cells #[.int .i64 0, .int .u64 A, .int .i64 fr, .int .u8 q, .bool cp, .int .i64 N] 38)).alloc (.cells #[.int .i64 0, .int .i64 0, .int .u8 0, .bool false, .int .i64 0] 34)).alloc (.cells #[.int .i64 0, .int .i64 0, .int .u8 0, .bool false, .int .i64 0] 34) := ⟨_, rfl⟩
  have hB0 : Below w.heap.size w w0 := by (rw [hw0]; exact (((Below.refl _ _).alloc (Nat.le_refl _) _).alloc (by simp) _).alloc (by simp; omega) _)
  have hs0 : w0.heap.size = w.heap.size + 1 + 1 + 1 := by (rw [hw0]; simp)
  have hE0 : w0.heap[w.heap.size]? = some (.cells #[.int .i64 0, .int .u64 A, .int .i64 fr, .int .u8 q, .bool cp, .int .i64 N] 38 (0, 0)) := by (rw [hw0]; exact (Below.heap_alloc _ _ _ (by simp; omega)).trans ((Below.heap_alloc _ _ _ (by simp)).trans (heap_alloc_new w _)))
  have hR0 : w0.heap[w.heap.size + 1]? = some (.cells #[.int .i64 0, .int .i64 0, .int .u8 0, .bool false, .int .i64 0] 34 (0, 0)) := by
    (rw [hw0]
     have e : (w.alloc (.cells #[.int .i64 0, .int .u64 A, .int .i64 fr, .int .u8 q, .bool cp, .int .i64 N] 38)).heap.size = w.heap.size + 1 := by simp
     rw [← e]
     exact (Below.heap_alloc _ _ _ (by simp)).trans (heap_alloc_new _ _))
  have hX0 : w0.heap[w.heap.size + 1 + 1]? = some (.cells #[.int .i64 0, .int .i64 0, .int .u8 0, .bool false, .int .i64 0] 34 (0, 0)) := by
    (rw [hw0]
     have e : ((w.alloc (.cells #[.int .i64 0, .int .u64 A, .int .i64 fr, .int .u8 q, .bool cp, .int .i64 N] 38)).alloc (.cells #[.int .i64 0, .int .i64 0, .int .u8 0, .bool false, .int .i64 0] 34)).heap.size = w.heap.size + 1 + 1 := by simp
     rw [← e]
     exact heap_alloc_new _ _)
  have hdr : Below w.heap.size w w0.drew := hB0.drew
  have e0 : w0.cell? ⟨w.heap.size, 0, none⟩ = some (.int .i64 0) := one_block hE0 0
  have e1 : w0.cell? ⟨w.heap.size, 1, none⟩ = some (.int .u64 A) := one_block hE0 1
  have e2 : w0.cell? ⟨w.heap.size, 2, none⟩ = some (.int .i64 fr) := one_block hE0 2
  have e3 : w0.cell? ⟨w.heap.size, 3, none⟩ = some (.int .u8 q) := one_block hE0 3
  have e4 : w0.cell? ⟨w.heap.size, 4, none⟩ = some (.bool cp) := one_block hE0 4
  have e5 : w0.cell? ⟨w.heap.size, 5, none⟩ = some (.int .i64 N) := one_block hE0 5
  have o0 : w0.cell? ⟨o, 0, none⟩ = some (.pointer (some ⟨a, 0, none⟩)) := (hB0.cell (p := ⟨o, 0, none⟩) l1).trans (one_block hO.self 0)
  have o1 : w0.cell? ⟨o, 1, none⟩ = some (.pointer (some ⟨c, 0, none⟩)) := (hB0.cell (p := ⟨o, 1, none⟩) l1).trans (one_block hO.self 1)
  have o2 : w0.cell? ⟨o, 2, none⟩ = some (.pointer (some ⟨t, 0, none⟩)) := (hB0.cell (p := ⟨o, 2, none⟩) l1).trans (one_block hO.self 2)
  have o3 : w0.cell? ⟨o, 3, none⟩ = some (.slice H s.hold.length cap) := (hB0.cell (p := ⟨o, 3, none⟩) l1).trans (one_block hO.self 3)
  have HRUN := Lib.hid h
  have HOWN := Lib.hid hO
  have HW0 := Lib.hid hw0
  have HE0 := Lib.hid hE0
  have HR0 := Lib.hid hR0
  have HX0 := Lib.hid hX0
  have HB0 := Lib.hid hB0
  clear h hO hw0 hE0 hR0 hX0 hB0
  have hcall := tmap_any t c a root fs m s.clock A fr q cp w0.drew S s.p s.T s.L (cntH s.hold) 0 (HOWN.out.cache.below hdr) ((hdr.block t (by omega)).trans HOWN.out.tab) HOWN.out.noS.2 HOWN.out.ne.2.2.2.1 hf.good hf.root hop.a0 hop.p0 (hf.cap hk)
  have HC := Lib.hid hcall
  clear hcall
  go_enter Tryz.func11, Tryz.ntmps11
  go_upto_region 1 with (fail)
  go_upto_region 4 with (fail)
  rw [← HW0.out]
  go_still_tail 13, (by kernel_rfl)
  go_wp2_with fail
  refine (HC.out).mono ?_
  rintro e w1 ⟨r, p', T', L', S', rfl, hC1, hm1', ho1, hres⟩
  have hm1 : Mod (fun b => S b ∨ b = m ∨ b = c) w0 w1 := hm1'.undrew.sub fun b hb => hb.elim .inl fun e => .inr (.inl e)
  have HC1 := Lib.hid hC1
  have HM1 := Lib.hid hm1
  have HO1 := Lib.hid ho1
  have HRES := Lib.hid hres
  clear hC1 hm1' ho1 hres e0 e1 e2 e3 e4 e5 o0 o1 o2 o3
  have hbr : w.heap.size ≤ w.heap.size + 1 ∧ w.heap.size + 1 < w0.heap.size := by omega
  have hbx : w.heap.size ≤ w.heap.size + 1 + 1 ∧ w.heap.size + 1 + 1 < w0.heap.size := by omega
  have hz1 := (HM1.out).size
  have nb : ∀ b, w.heap.size ≤ b → ¬ (S b ∨ b = m ∨ b = c) := fun b hb e => by (rcases e with e | e | e; have := l5 b e; omega; omega; omega)
  have hR1 := ((HM1.out).block (w.heap.size + 1) (by omega) (nb _ (by omega))).trans HR0.out
  have hX1 := ((HM1.out).block (w.heap.size + 1 + 1) (by omega) (nb _ (by omega))).trans HX0.out
  have hlt1 : w.heap.size + 1 < w1.heap.size := by omega
  have hlt2 : w.heap.size + 1 + 1 < w1.heap.size := by omega
  have x0 : w1.cell? ⟨w.heap.size + 1 + 1, 0, none⟩ = some (.int .i64 0) := one_block hX1 0
  have x1 : w1.cell? ⟨w.heap.size + 1 + 1, 1, none⟩ = some (.int .i64 0) := one_block hX1 1
  have x2 : w1.cell? ⟨w.heap.size + 1 + 1, 2, none⟩ = some (.int .u8 0) := one_block hX1 2
  have x3 : w1.cell? ⟨w.heap.size + 1 + 1, 3, none⟩ = some (.bool false) := one_block hX1 3
  have x4 : w1.cell? ⟨w.heap.size + 1 + 1, 4, none⟩ = some (.int .i64 0) := one_block hX1 4
  have y0 : w1.cell? ⟨w.heap.size + 1, 0, none⟩ = some (.int .i64 0) := one_block hR1 0
  have y1 : w1.cell? ⟨w.heap.size + 1, 1, none⟩ = some (.int .i64 0) := one_block hR1 1
  have y2 : w1.cell? ⟨w.heap.size + 1, 2, none⟩ = some (.int .u8 0) := one_block hR1 2
  have y3 : w1.cell? ⟨w.heap.size + 1, 3, none⟩ = some (.bool false) := one_block hR1 3
  have y4 : w1.cell? ⟨w.heap.size + 1, 4, none⟩ = some (.int .i64 0) := one_block hR1 4
  have u0 := one_free hX1 0
  have u1 := one_free hX1 1
  have u2 := one_free hX1 2
  have u3 := one_free hX1 3
  have u4 := one_free hX1 4
  have z0 := one_free hR1 0
  have z1 := one_free hR1 1
  have z2 := one_free hR1 2
  have z3 := one_free hR1 3
  have z4 := one_free hR1 4
  clear hR1 hX1
  go_wp2_with fail
  skip
  exact bodyPost_ret (v := (Told.err r).val) (by simp [results, Tryz.results11, go_sem, Told.val, Told.err, noLeaf, hlt1, hlt2, x0, x1, x2, x3, x4, y0, y1, y2, y3, y4, u0, u1, u2, u3, u4, z0, z1, z2, z3, z4]) rfl ⟨Told.err r, ⟨p', T', L', s.clock, s.hold⟩, S', H, cap, rfl, (HRUN.out.turn HB0.out HC1.out HM1.out HO1.out (by (repeat (refine Mod.set ?_ (by first | exact hbr | exact hbx))); exact Mod.refl _ _) T').1, (HRUN.out.turn HB0.out HC1.out HM1.out HO1.out (by (repeat (refine Mod.set ?_ (by first | exact hbr | exact hbx))); exact Mod.refl _ _) T').2, HRES.out.does⟩

end Go.Proofs.YtmkgdgfbdmjeeaaGreatDoor

namespace Go.Proofs.YtmkgdgfbdmjeeaaGreatDoor
open Go.RowKit Go.Sort
set_option linter.unusedSimpArgs false
set_option linter.unusedVariables false

set_option maxRecDepth 100000 in
set_option maxHeartbeats 4000000 in
theorem does_unmap (B o a c fs m t root n k : Nat) (A fr q N : Int) (cp : Bool) (w : World) (S : Nat → Prop) (s : Sta) (H : Option Addr) (cap : Nat) (h : RunAt w B o a c fs m t root S s H cap) (hf : s.Fine root n k) (hk : k ≤ 100000) (hop : (Op.mk 1 A fr q cp N).Ok) :
    Calls Tryz.prog 11 #[.pointer (some ⟨o, 0, none⟩), .agg #[.int .i64 1, .int .u64 A, .int .i64 fr, .int .u8 q, .bool cp, .int .i64 N]] w (DoesPost w B o a c fs m t root S H ⟨1, A, fr, q, cp, N⟩ s) := by
  have hO := h.own
  obtain ⟨l1, l2, l3, l4, l5⟩ := h.lts
  have hpos := hO.cache.pool.pos
  obtain ⟨w0, hw0⟩ : ∃ w0, w0 = ((w.alloc (.cells #[.int .i64 1, .int .u64 A, .int .i64 fr, .int .u8 q, .bool cp, .int .i64 N] 38)).alloc (.cells #[.int .i64 0, .int .i64 0, .int .u8 0, .bool false, .int .i64 0] 34)).alloc (.cells #[.int .i64 0, .int .i64 0, .int .u8 0, .bool false, .int .i64 0] 34) := ⟨_, rfl⟩
  have hB0 : Below w.heap.size w w0 := by (rw [hw0]; exact (((Below.refl _ _).alloc (Nat.le_refl _) _).alloc (by simp) _).alloc (by simp; omega) _)
  have hs0 : w0.heap.size = w.heap.size + 1 + 1 + 1 := by (rw [hw0]; simp)
  have hE0 : w0.heap[w.heap.size]? = some (.cells #[.int .i64 1, .int .u64 A, .int .i64 fr, .int .u8 q, .bool cp, .int .i64 N] 38 (0, 0)) := by (rw [hw0]; exact (Below.heap_alloc _ _ _ (by simp; omega)).trans ((Below.heap_alloc _ _ _ (by simp)).trans (heap_alloc_new w _)))
  have hR0 : w0.heap[w.heap.size + 1]? = some (.cells #[.int .i64 0, .int .i64 0, .int .u8 0, .bool false, .int .i64 0] 34 (0, 0)) := by
    (rw [hw0]
     have e : (w.alloc (.cells #[.int .i64 1, .int .u64 A, .int .i64 fr, .int .u8 q, .bool cp, .int .i64 N] 38)).heap.size = w.heap.size + 1 := by simp
     rw [← e]
     exact (Below.heap_alloc _ _ _ (by simp)).trans (heap_alloc_new _ _))
  have hX0 : w0.heap[w.heap.size + 1 + 1]? = some (.cells #[.int .i64 0, .int .i64 0, .int .u8 0, .bool false, .int .i64 0] 34 (0, 0)) := by
    (rw [hw0]
     have e : ((w.alloc (.cells #[.int .i64 1, .int .u64 A, .int .i64 fr, .int .u8 q, .bool cp, .int .i64 N] 38)).alloc (.cells #[.int .i64 0, .int .i64 0, .int .u8 0, .bool false, .int .i64 0] 34)).heap.size = w.heap.size + 1 + 1 := by simp
     rw [← e]
     exact heap_alloc_new _ _)
  have hdr : Below w.heap.size w w0.drew := hB0.drew
  have e0 : w0.cell? ⟨w.heap.size, 0, none⟩ = some (.int .i64 1) := one_block hE0 0
  have e1 : w0.cell? ⟨w.heap.size, 1, none⟩ = some (.int .u64 A) := one_block hE0 1
  have e2 : w0.cell? ⟨w.heap.size, 2, none⟩ = some (.int .i64 fr) := one_block hE0 2
  have e3 : w0.cell? ⟨w.heap.size, 3, none⟩ = some (.int .u8 q) := one_block hE0 3
  have e4 : w0.cell? ⟨w.heap.size, 4, none⟩ = some (.bool cp) := one_block hE0 4
  have e5 : w0.cell? ⟨w.heap.size, 5, none⟩ = some (.int .i64 N) := one_block hE0 5
  have o0 : w0.cell? ⟨o, 0, none⟩ = some (.pointer (some ⟨a, 0, none⟩)) := (hB0.cell (p := ⟨o, 0, none⟩) l1).trans (one_block hO.self 0)
  have o1 : w0.cell? ⟨o, 1, none⟩ = some (.pointer (some ⟨c, 0, none⟩)) := (hB0.cell (p := ⟨o, 1, none⟩) l1).trans (one_block hO.self 1)
  have o2 : w0.cell? ⟨o, 2, none⟩ = some (.pointer (some ⟨t, 0, none⟩)) := (hB0.cell (p := ⟨o, 2, none⟩) l1).trans (one_block hO.self 2)
  have o3 : w0.cell? ⟨o, 3, none⟩ = some (.slice H s.hold.length cap) := (hB0.cell (p := ⟨o, 3, none⟩) l1).trans (one_block hO.self 3)
  have HRUN := Lib.hid h
  have HOWN := Lib.hid hO
  have HW0 := Lib.hid hw0
  have HE0 := Lib.hid hE0
  have HR0 := Lib.hid hR0
  have HX0 := Lib.hid hX0
  have HB0 := Lib.hid hB0
  clear h hO hw0 hE0 hR0 hX0 hB0
  have hcall := tunmap_any t c a root A w0.drew S s.p s.T _ 0 (HOWN.out.cache.below hdr).pool ((hdr.block t (by omega)).trans HOWN.out.tab) HOWN.out.noS.2 hf.good hf.root hop.a0
  have HC := Lib.hid hcall
  clear hcall
  go_enter Tryz.func11, Tryz.ntmps11
  go_upto_region 1 with (fail)
  go_upto_region 6 with (fail)
  rw [← HW0.out]
  go_still_tail 6, (by kernel_rfl)
  go_wp2_with fail
  refine (HC.out).mono ?_
  rintro e w1 ⟨r, p', T', rfl, hP1, hm1', hres⟩
  obtain ⟨S', hS'⟩ : ∃ S', S' = S := ⟨_, rfl⟩
  have hC1 : CacheAt w1 S' c a fs m s.clock p' s.L := by (rw [hS']; exact (HOWN.out.cache.below hdr).turn hm1' hP1 (Out.refl _ _))
  have hm1 : Mod (fun b => S b ∨ b = m ∨ b = c) w0 w1 := hm1'.undrew.sub fun b hb => .inl hb
  have ho1 : Out S S' w0 := by (rw [hS']; exact Out.refl _ _)
  have HRES := Lib.hid hres
  clear hP1 hm1' hres hS'
  have HC1 := Lib.hid hC1
  have HM1 := Lib.hid hm1
  have HO1 := Lib.hid ho1
  clear hC1 hm1 ho1 e0 e1 e2 e3 e4 e5 o0 o1 o2 o3
  have hbr : w.heap.size ≤ w.heap.size + 1 ∧ w.heap.size + 1 < w0.heap.size := by omega
  have hbx : w.heap.size ≤ w.heap.size + 1 + 1 ∧ w.heap.size + 1 + 1 < w0.heap.size := by omega
  have hz1 := (HM1.out).size
  have nb : ∀ b, w.heap.size ≤ b → ¬ (S b ∨ b = m ∨ b = c) := fun b hb e => by (rcases e with e | e | e; have := l5 b e; omega; omega; omega)
  have hR1 := ((HM1.out).block (w.heap.size + 1) (by omega) (nb _ (by omega))).trans HR0.out
  have hX1 := ((HM1.out).block (w.heap.size + 1 + 1) (by omega) (nb _ (by omega))).trans HX0.out
  have hlt1 : w.heap.size + 1 < w1.heap.size := by omega
  have hlt2 : w.heap.size + 1 + 1 < w1.heap.size := by omega
  have x0 : w1.cell? ⟨w.heap.size + 1 + 1, 0, none⟩ = some (.int .i64 0) := one_block hX1 0
  have x1 : w1.cell? ⟨w.heap.size + 1 + 1, 1, none⟩ = some (.int .i64 0) := one_block hX1 1
  have x2 : w1.cell? ⟨w.heap.size + 1 + 1, 2, none⟩ = some (.int .u8 0) := one_block hX1 2
  have x3 : w1.cell? ⟨w.heap.size + 1 + 1, 3, none⟩ = some (.bool false) := one_block hX1 3
  have x4 : w1.cell? ⟨w.heap.size + 1 + 1, 4, none⟩ = some (.int .i64 0) := one_block hX1 4
  have y0 : w1.cell? ⟨w.heap.size + 1, 0, none⟩ = some (.int .i64 0) := one_block hR1 0
  have y1 : w1.cell? ⟨w.heap.size + 1, 1, none⟩ = some (.int .i64 0) := one_block hR1 1
  have y2 : w1.cell? ⟨w.heap.size + 1, 2, none⟩ = some (.int .u8 0) := one_block hR1 2
  have y3 : w1.cell? ⟨w.heap.size + 1, 3, none⟩ = some (.bool false) := one_block hR1 3
  have y4 : w1.cell? ⟨w.heap.size + 1, 4, none⟩ = some (.int .i64 0) := one_block hR1 4
  have u0 := one_free hX1 0
  have u1 := one_free hX1 1
  have u2 := one_free hX1 2
  have u3 := one_free hX1 3
  have u4 := one_free hX1 4
  have z0 := one_free hR1 0
  have z1 := one_free hR1 1
  have z2 := one_free hR1 2
  have z3 := one_free hR1 3
  have z4 := one_free hR1 4
  clear hR1 hX1
  go_wp2_with fail
  skip
  exact bodyPost_ret (v := (Told.err r).val) (by simp [results, Tryz.results11, go_sem, Told.val, Told.err, noLeaf, hlt1, hlt2, x0, x1, x2, x3, x4, y0, y1, y2, y3, y4, u0, u1, u2, u3, u4, z0, z1, z2, z3, z4]) rfl ⟨Told.err r, ⟨p', T', s.L, s.clock, s.hold⟩, S', H, cap, rfl, (HRUN.out.turn HB0.out HC1.out HM1.out HO1.out (by (repeat (refine Mod.set ?_ (by first | exact hbr | exact hbx))); exact Mod.refl _ _) T').1, (HRUN.out.turn HB0.out HC1.out HM1.out HO1.out (by (repeat (refine Mod.set ?_ (by first | exact hbr | exact hbx))); exact Mod.refl _ _) T').2, .unmap r p' T' rfl HRES.out⟩

end Go.Proofs.YtmkgdgfbdmjeeaaGreatDoor

namespace Go.Proofs.YtmkgdgfbdmjeeaaGreatDoor
open Go.RowKit Go.Sort
set_option linter.unusedSimpArgs false
set_option linter.unusedVariables false

set_option maxRecDepth 100000 in
set_option maxHeartbeats 4000000 in
theorem does_set (B o a c fs m t root n k : Nat) (A fr q N : Int) (cp : Bool) (w : World) (S : Nat → Prop) (s : Sta) (H : Option Addr) (cap : Nat) (h : RunAt w B o a c fs m t root S s H cap) (hf : s.Fine root n k) (hk : k ≤ 100000) (hop : (Op.mk 2 A fr q cp N).Ok) :
    Calls Tryz.prog 11 #[.pointer (some ⟨o, 0, none⟩), .agg #[.int .i64 2, .int .u64 A, .int .i64 fr, .int .u8 q, .bool cp, .int .i64 N]] w (DoesPost w B o a c fs m t root S H ⟨2, A, fr, q, cp, N⟩ s) := by
  have hO := h.own
  obtain ⟨l1, l2, l3, l4, l5⟩ := h.lts
  have hpos := hO.cache.pool.pos
  obtain ⟨w0, hw0⟩ : ∃ w0, w0 = ((w.alloc (.cells #[.int .i64 2, .int .u64 A, .int .i64 fr, .int .u8 q, .bool cp, .int .i64 N] 38)).alloc (.cells #[.int .i64 0, .int .i64 0, .int .u8 0, .bool false, .int .i64 0] 34)).alloc (.cells #[.int .i64 0, .int .i64 0, .int .u8 0, .bool false, .int .i64 0] 34) := ⟨_, rfl⟩
  have hB0 : Below w.heap.size w w0 := by (rw [hw0]; exact (((Below.refl _ _).alloc (Nat.le_refl _) _).alloc (by simp) _).alloc (by simp; omega) _)
  have hs0 : w0.heap.size = w.heap.size + 1 + 1 + 1 := by (rw [hw0]; simp)
  have hE0 : w0.heap[w.heap.size]? = some (.cells #[.int .i64 2, .int .u64 A, .int .i64 fr, .int .u8 q, .bool cp, .int .i64 N] 38 (0, 0)) := by (rw [hw0]; exact (Below.heap_alloc _ _ _ (by simp; omega)).trans ((Below.heap_alloc _ _ _ (by simp)).trans (heap_alloc_new w _)))
  have hR0 : w0.heap[w.heap.size + 1]? = some (.cells #[.int .i64 0, .int .i64 0, .int .u8 0, .bool false, .int .i64 0] 34 (0, 0)) := by
    (rw [hw0]
     have e : (w.alloc (.cells #[.int .i64 2, .int .u64 A, .int .i64 fr, .int .u8 q, .bool cp, .int .i64 N] 38)).heap.size = w.heap.size + 1 := by simp
     rw [← e]
     exact (Below.heap_alloc _ _ _ (by simp)).trans (heap_alloc_new _ _))
  have hX0 : w0.heap[w.heap.size + 1 + 1]? = some (.cells #[.int .i64 0, .int .i64 0, .int .u8 0, .bool false, .int .i64 0] 34 (0, 0)) := by
    (rw [hw0]
     have e : ((w.alloc (.cells #[.int .i64 2, .int .u64 A, .int .i64 fr, .int .u8 q, .bool cp, .int .i64 N] 38)).alloc (.cells #[.int .i64 0, .int .i64 0, .int .u8 0, .bool false, .int .i64 0] 34)).heap.size = w.heap.size + 1 + 1 := by simp
     rw [← e]
     exact heap_alloc_new _ _)
  have hdr : Below w.heap.size w w0.drew := hB0.drew
  have e0 : w0.cell? ⟨w.heap.size, 0, none⟩ = some (.int .i64 2) := one_block hE0 0
  have e1 : w0.cell? ⟨w.heap.size, 1, none⟩ = some (.int .u64 A) := one_block hE0 1
  have e2 : w0.cell? ⟨w.heap.size, 2, none⟩ = some (.int .i64 fr) := one_block hE0 2
  have e3 : w0.cell? ⟨w.heap.size, 3, none⟩ = some (.int .u8 q) := one_block hE0 3
  have e4 : w0.cell? ⟨w.heap.size, 4, none⟩ = some (.bool cp) := one_block hE0 4
  have e5 : w0.cell? ⟨w.heap.size, 5, none⟩ = some (.int .i64 N) := one_block hE0 5
  have o0 : w0.cell? ⟨o, 0, none⟩ = some (.pointer (some ⟨a, 0, none⟩)) := (hB0.cell (p := ⟨o, 0, none⟩) l1).trans (one_block hO.self 0)
  have o1 : w0.cell? ⟨o, 1, none⟩ = some (.pointer (some ⟨c, 0, none⟩)) := (hB0.cell (p := ⟨o, 1, none⟩) l1).trans (one_block hO.self 1)
  have o2 : w0.cell? ⟨o, 2, none⟩ = some (.pointer (some ⟨t, 0, none⟩)) := (hB0.cell (p := ⟨o, 2, none⟩) l1).trans (one_block hO.self 2)
  have o3 : w0.cell? ⟨o, 3, none⟩ = some (.slice H s.hold.length cap) := (hB0.cell (p := ⟨o, 3, none⟩) l1).trans (one_block hO.self 3)
  have HRUN := Lib.hid h
  have HOWN := Lib.hid hO
  have HW0 := Lib.hid hw0
  have HE0 := Lib.hid hE0
  have HR0 := Lib.hid hR0
  have HX0 := Lib.hid hX0
  have HB0 := Lib.hid hB0
  clear h hO hw0 hE0 hR0 hX0 hB0
  have hcall := tset_any t c a root 0 A fr q cp w0.drew S s.p s.T _ (HOWN.out.cache.below hdr).pool ((hdr.block t (by omega)).trans HOWN.out.tab) HOWN.out.noS.2 hf.good hf.root hop.a0 hop.p0 (hf.cap hk)
  have HC := Lib.hid hcall
  clear hcall
  go_enter Tryz.func11, Tryz.ntmps11
  go_upto_region 1 with (fail)
  go_upto_region 8 with (fail)
  rw [← HW0.out]
  go_still_tail 13, (by kernel_rfl)
  go_wp2_with fail
  refine (HC.out).mono ?_
  rintro e w1 ⟨he, hP1, hm1'⟩
  obtain ⟨⟨r, p', T'⟩, hr⟩ : ∃ x : Int × Pool × Tab, x = setRes s.p s.T A fr q cp := ⟨_, rfl⟩
  rw [← hr] at he hP1
  simp only at he hP1
  subst he
  obtain ⟨S', hS'⟩ : ∃ S', S' = S := ⟨_, rfl⟩
  have hC1 : CacheAt w1 S' c a fs m s.clock p' s.L := by (rw [hS']; exact (HOWN.out.cache.below hdr).turn hm1' hP1 (Out.refl _ _))
  have hm1 : Mod (fun b => S b ∨ b = m ∨ b = c) w0 w1 := hm1'.undrew.sub fun b hb => .inl hb
  have ho1 : Out S S' w0 := by (rw [hS']; exact Out.refl _ _)
  have HRS := Lib.hid hr
  clear hP1 hm1' hS' hr
  have HC1 := Lib.hid hC1
  have HM1 := Lib.hid hm1
  have HO1 := Lib.hid ho1
  clear hC1 hm1 ho1 e0 e1 e2 e3 e4 e5 o0 o1 o2 o3
  have hbr : w.heap.size ≤ w.heap.size + 1 ∧ w.heap.size + 1 < w0.heap.size := by omega
  have hbx : w.heap.size ≤ w.heap.size + 1 + 1 ∧ w.heap.size + 1 + 1 < w0.heap.size := by omega
  have hz1 := (HM1.out).size
  have nb : ∀ b, w.heap.size ≤ b → ¬ (S b ∨ b = m ∨ b = c) := fun b hb e => by (rcases e with e | e | e; have := l5 b e; omega; omega; omega)
  have hR1 := ((HM1.out).block (w.heap.size + 1) (by omega) (nb _ (by omega))).trans HR0.out
  have hX1 := ((HM1.out).block (w.heap.size + 1 + 1) (by omega) (nb _ (by omega))).trans HX0.out
  have hlt1 : w.heap.size + 1 < w1.heap.size := by omega
  have hlt2 : w.heap.size + 1 + 1 < w1.heap.size := by omega
  have x0 : w1.cell? ⟨w.heap.size + 1 + 1, 0, none⟩ = some (.int .i64 0) := one_block hX1 0
  have x1 : w1.cell? ⟨w.heap.size + 1 + 1, 1, none⟩ = some (.int .i64 0) := one_block hX1 1
  have x2 : w1.cell? ⟨w.heap.size + 1 + 1, 2, none⟩ = some (.int .u8 0) := one_block hX1 2
  have x3 : w1.cell? ⟨w.heap.size + 1 + 1, 3, none⟩ = some (.bool false) := one_block hX1 3
  have x4 : w1.cell? ⟨w.heap.size + 1 + 1, 4, none⟩ = some (.int .i64 0) := one_block hX1 4
  have y0 : w1.cell? ⟨w.heap.size + 1, 0, none⟩ = some (.int .i64 0) := one_block hR1 0
  have y1 : w1.cell? ⟨w.heap.size + 1, 1, none⟩ = some (.int .i64 0) := one_block hR1 1
  have y2 : w1.cell? ⟨w.heap.size + 1, 2, none⟩ = some (.int .u8 0) := one_block hR1 2
  have y3 : w1.cell? ⟨w.heap.size + 1, 3, none⟩ = some (.bool false) := one_block hR1 3
  have y4 : w1.cell? ⟨w.heap.size + 1, 4, none⟩ = some (.int .i64 0) := one_block hR1 4
  have u0 := one_free hX1 0
  have u1 := one_free hX1 1
  have u2 := one_free hX1 2
  have u3 := one_free hX1 3
  have u4 := one_free hX1 4
  have z0 := one_free hR1 0
  have z1 := one_free hR1 1
  have z2 := one_free hR1 2
  have z3 := one_free hR1 3
  have z4 := one_free hR1 4
  clear hR1 hX1
  go_wp2_with fail
  skip
  exact bodyPost_ret (v := (Told.err r).val) (by simp [results, Tryz.results11, go_sem, Told.val, Told.err, noLeaf, hlt1, hlt2, x0, x1, x2, x3, x4, y0, y1, y2, y3, y4, u0, u1, u2, u3, u4, z0, z1, z2, z3, z4]) rfl ⟨Told.err r, ⟨p', T', s.L, s.clock, s.hold⟩, S', H, cap, rfl, (HRUN.out.turn HB0.out HC1.out HM1.out HO1.out (by (repeat (refine Mod.set ?_ (by first | exact hbr | exact hbx))); exact Mod.refl _ _) T').1, (HRUN.out.turn HB0.out HC1.out HM1.out HO1.out (by (repeat (refine Mod.set ?_ (by first | exact hbr | exact hbx))); exact Mod.refl _ _) T').2, DoRes.setE rfl HRS.out⟩

end Go.Proofs.YtmkgdgfbdmjeeaaGreatDoor
