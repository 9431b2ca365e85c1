/- What is done with a table: does, get. What is done with a table: does, find; another kind. -/
import Derived.Test.YtmkgdgfbdmjeeaaGreatDoorTsC

namespace Go.Proofs.YtmkgdgfbdmjeeaaGreatDoor
open Go.RowKit Go.Sort
set_option linter.unusedSimpArgs false
set_option linter.unusedVariables false

set_option maxRecDepth 100000 in
set_option maxHeartbeats 4000000 in
theorem does_get (B o a c fs m t root n k : Nat) (A fr q N : Int) (cp : Bool) (w : World) (S : Nat → Prop) (s : Sta) (H : Option Addr) (cap : Nat) (h : RunAt w B o a c fs m t root S s H cap) (hf : s.Fine root n k) (hk : k ≤ 100000) (hop : (Op.mk 5 A fr q cp N).Ok) :
    Calls Tryz.prog 11 #[.pointer (some ⟨o, 0, none⟩), .agg #[.int .i64 5, .int .u64 A, .int .i64 fr, .int .u8 q, .bool cp, .int .i64 N]] w (DoesPost w B o a c fs m t root S H ⟨5, A, fr, q, cp, N⟩ s) := by
  have hO := h.own
  obtain ⟨l1, l2, l3, l4, l5⟩ := h.lts
  have hpos := hO.cache.pool.pos
  obtain ⟨w0, hw0⟩ : ∃ w0, w0 = ((w.alloc (.cells #[.int .i64 5, .int .u64 A, .int .i64 fr, .int .u8 q, .bool cp, .int .i64 N] 38)).alloc (.cells #[.int .i64 0, .int .i64 0, .int .u8 0, .bool false, .int .i64 0] 34)).alloc (.cells #[.int .i64 0, .int .i64 0, .int .u8 0, .bool false, .int .i64 0] 34) := ⟨_, rfl⟩
  have hB0 : Below w.heap.size w w0 := by (rw [hw0]; exact (((Below.refl _ _).alloc (Nat.le_refl _) _).alloc (by simp) _).alloc (by simp; omega) _)
  have hs0 : w0.heap.size = w.heap.size + 1 + 1 + 1 := by (rw [hw0]; simp)
  have hE0 : w0.heap[w.heap.size]? = some (.cells #[.int .i64 5, .int .u64 A, .int .i64 fr, .int .u8 q, .bool cp, .int .i64 N] 38 (0, 0)) := by (rw [hw0]; exact (Below.heap_alloc _ _ _ (by simp; omega)).trans ((Below.heap_alloc _ _ _ (by simp)).trans (heap_alloc_new w _)))
  have hR0 : w0.heap[w.heap.size + 1]? = some (.cells #[.int .i64 0, .int .i64 0, .int .u8 0, .bool false, .int .i64 0] 34 (0, 0)) := by
    (rw [hw0]
     have e : (w.alloc (.cells #[.int .i64 5, .int .u64 A, .int .i64 fr, .int .u8 q, .bool cp, .int .i64 N] 38)).heap.size = w.heap.size + 1 := by simp
     rw [← e]
     exact (Below.heap_alloc _ _ _ (by simp)).trans (heap_alloc_new _ _))
  have hX0 : w0.heap[w.heap.size + 1 + 1]? = some (.cells #[.int .i64 0, .int .i64 0, .int .u8 0, .bool false, .int .i64 0] 34 (0, 0)) := by
    (rw [hw0]
     have e : ((w.alloc (.cells #[.int .i64 5, .int .u64 A, .int .i64 fr, .int .u8 q, .bool cp, .int .i64 N] 38)).alloc (.cells #[.int .i64 0, .int .i64 0, .int .u8 0, .bool false, .int .i64 0] 34)).heap.size = w.heap.size + 1 + 1 := by simp
     rw [← e]
     exact heap_alloc_new _ _)
  have hdr : Below w.heap.size w w0.drew := hB0.drew
  have e0 : w0.cell? ⟨w.heap.size, 0, none⟩ = some (.int .i64 5) := one_block hE0 0
  have e1 : w0.cell? ⟨w.heap.size, 1, none⟩ = some (.int .u64 A) := one_block hE0 1
  have e2 : w0.cell? ⟨w.heap.size, 2, none⟩ = some (.int .i64 fr) := one_block hE0 2
  have e3 : w0.cell? ⟨w.heap.size, 3, none⟩ = some (.int .u8 q) := one_block hE0 3
  have e4 : w0.cell? ⟨w.heap.size, 4, none⟩ = some (.bool cp) := one_block hE0 4
  have e5 : w0.cell? ⟨w.heap.size, 5, none⟩ = some (.int .i64 N) := one_block hE0 5
  have o0 : w0.cell? ⟨o, 0, none⟩ = some (.pointer (some ⟨a, 0, none⟩)) := (hB0.cell (p := ⟨o, 0, none⟩) l1).trans (one_block hO.self 0)
  have o1 : w0.cell? ⟨o, 1, none⟩ = some (.pointer (some ⟨c, 0, none⟩)) := (hB0.cell (p := ⟨o, 1, none⟩) l1).trans (one_block hO.self 1)
  have o2 : w0.cell? ⟨o, 2, none⟩ = some (.pointer (some ⟨t, 0, none⟩)) := (hB0.cell (p := ⟨o, 2, none⟩) l1).trans (one_block hO.self 2)
  have o3 : w0.cell? ⟨o, 3, none⟩ = some (.slice H s.hold.length cap) := (hB0.cell (p := ⟨o, 3, none⟩) l1).trans (one_block hO.self 3)
  have HRUN := Lib.hid h
  have HOWN := Lib.hid hO
  have HW0 := Lib.hid hw0
  have HE0 := Lib.hid hE0
  have HR0 := Lib.hid hR0
  have HX0 := Lib.hid hX0
  have HB0 := Lib.hid hB0
  clear h hO hw0 hE0 hR0 hX0 hB0
  have hcall := get_one c a fs m N s.clock w0.drew S s.p s.L (HOWN.out.cache.below hdr) (by obtain ⟨wf, hf1, hf2, hf3⟩ := HRUN.out.files; exact hf2.below hf1 (hf3.trans (hdr.mono HRUN.out.base))) (by have := hf.few; omega)
  have nb : ∀ b, w.heap.size ≤ b → ¬ (S b ∨ b = m ∨ b = c) := fun b hb e => by (rcases e with e | e | e; have := l5 b e; omega; omega; omega)
  have hbr : w.heap.size ≤ w.heap.size + 1 ∧ w.heap.size + 1 < w0.heap.size := by omega
  have hbx : w.heap.size ≤ w.heap.size + 1 + 1 ∧ w.heap.size + 1 + 1 < w0.heap.size := by omega
  have hcall2 : Calls Tryz.prog 46 #[.pointer (some ⟨c, 0, none⟩), .int .i64 1, .int .i64 N] w0.drew fun e w1 => ∃ r f p' L' clock' S', e = .returned (.tuple #[.int .i64 (f : Nat), .int .i64 r]) ∧ Hid (CacheAt w1 S' c a fs m clock' p' L') ∧ Hid (Mod (fun b => S b ∨ b = m ∨ b = c) w0 w1) ∧ Hid (Out S S' w0) ∧ Hid (GetRes 1 N 0 (fileK N) (fileD N) s.p s.L s.clock r f p' L' clock') ∧ BoxAt w1 (w.heap.size + 1 + 1) ∧ BoxAt w1 (w.heap.size + 1) := by
    refine hcall.mono ?_
    rintro e w1 ⟨r, f, p', L', clock', S', rfl, hC1, hm1', ho1, hres⟩
    have hm1 : Mod (fun b => S b ∨ b = m ∨ b = c) w0 w1 := hm1'.undrew
    exact ⟨r, f, p', L', clock', S', rfl, Lib.hid hC1, Lib.hid hm1, Lib.hid ho1, Lib.hid hres, told_box HX0.out hm1 (nb _ (by omega)), told_box HR0.out hm1 (nb _ (by omega))⟩
  have HC := Lib.hid hcall2
  clear hcall hcall2
  go_enter Tryz.func11, Tryz.ntmps11
  go_upto_region 1 with (fail)
  go_upto_region 16 with (fail)
  rw [← HW0.out]
  go_region_with ((first
    | (go_at_call 46; refine (HC.out).mono ?_; rintro e w1 ⟨r, f, p', L', clock', S', rfl, HC1, HM1, HO1, HRES, ⟨x0, x1, x2, x3, x4, u0, u1, u2, u3, u4, hlt2⟩, ⟨y0, y1, y2, y3, y4, z0, z1, z2, z3, z4, hlt1⟩⟩)))
  all_goals (go_wp2_with fail; exact bodyPost_ret (v := ((Told.mk (f : Int) noLeaf r)).val) (by simp [results, Tryz.results11, go_sem, Told.val, Told.err, noLeaf, hlt1, hlt2, x0, x1, x2, x3, x4, y0, y1, y2, y3, y4, u0, u1, u2, u3, u4, z0, z1, z2, z3, z4]) rfl ⟨(Told.mk (f : Int) noLeaf r), ⟨p', s.T, L', clock', s.hold⟩, S', H, cap, rfl, (HRUN.out.turn HB0.out HC1.out HM1.out HO1.out (by (repeat (refine Mod.set ?_ (by first | exact hbr | exact hbx))); exact Mod.refl _ _) s.T).1, (HRUN.out.turn HB0.out HC1.out HM1.out HO1.out (by (repeat (refine Mod.set ?_ (by first | exact hbr | exact hbx))); exact Mod.refl _ _) s.T).2, .get r f p' L' clock' rfl HRES.out⟩)

end Go.Proofs.YtmkgdgfbdmjeeaaGreatDoor

namespace Go.Proofs.YtmkgdgfbdmjeeaaGreatDoor
open Go.RowKit Go.Sort
set_option linter.unusedSimpArgs false
set_option linter.unusedVariables false

set_option maxRecDepth 100000 in
set_option maxHeartbeats 4000000 in
theorem does_find (B o a c fs m t root n k : Nat) (A fr q N : Int) (cp : Bool) (w : World) (S : Nat → Prop) (s : Sta) (H : Option Addr) (cap : Nat) (h : RunAt w B o a c fs m t root S s H cap) (hf : s.Fine root n k) (hk : k ≤ 100000) (hop : (Op.mk 3 A fr q cp N).Ok) :
    Calls Tryz.prog 11 #[.pointer (some ⟨o, 0, none⟩), .agg #[.int .i64 3, .int .u64 A, .int .i64 fr, .int .u8 q, .bool cp, .int .i64 N]] w (DoesPost w B o a c fs m t root S H ⟨3, A, fr, q, cp, N⟩ s) := by
  have hO := h.own
  obtain ⟨l1, l2, l3, l4, l5⟩ := h.lts
  have hpos := hO.cache.pool.pos
  obtain ⟨w0, hw0⟩ : ∃ w0, w0 = ((w.alloc (.cells #[.int .i64 3, .int .u64 A, .int .i64 fr, .int .u8 q, .bool cp, .int .i64 N] 38)).alloc (.cells #[.int .i64 0, .int .i64 0, .int .u8 0, .bool false, .int .i64 0] 34)).alloc (.cells #[.int .i64 0, .int .i64 0, .int .u8 0, .bool false, .int .i64 0] 34) := ⟨_, rfl⟩
  have hB0 : Below w.heap.size w w0 := by (rw [hw0]; exact (((Below.refl _ _).alloc (Nat.le_refl _) _).alloc (by simp) _).alloc (by simp; omega) _)
  have hs0 : w0.heap.size = w.heap.size + 1 + 1 + 1 := by (rw [hw0]; simp)
  have hE0 : w0.heap[w.heap.size]? = some (.cells #[.int .i64 3, .int .u64 A, .int .i64 fr, .int .u8 q, .bool cp, .int .i64 N] 38 (0, 0)) := by (rw [hw0]; exact (Below.heap_alloc _ _ _ (by simp; omega)).trans ((Below.heap_alloc _ _ _ (by simp)).trans (heap_alloc_new w _)))
  have hR0 : w0.heap[w.heap.size + 1]? = some (.cells #[.int .i64 0, .int .i64 0, .int .u8 0, .bool false, .int .i64 0] 34 (0, 0)) := by
    (rw [hw0]
     have e : (w.alloc (.cells #[.int .i64 3, .int .u64 A, .int .i64 fr, .int .u8 q, .bool cp, .int .i64 N] 38)).heap.size = w.heap.size + 1 := by simp
     rw [← e]
     exact (Below.heap_alloc _ _ _ (by simp)).trans (heap_alloc_new _ _))
  have hX0 : w0.heap[w.heap.size + 1 + 1]? = some (.cells #[.int .i64 0, .int .i64 0, .int .u8 0, .bool false, .int .i64 0] 34 (0, 0)) := by
    (rw [hw0]
     have e : ((w.alloc (.cells #[.int .i64 3, .int .u64 A, .int .i64 fr, .int .u8 q, .bool cp, .int .i64 N] 38)).alloc (.cells #[.int .i64 0, .int .i64 0, .int .u8 0, .bool false, .int .i64 0] 34)).heap.size = w.heap.size + 1 + 1 := by simp
     rw [← e]
     exact heap_alloc_new _ _)
  have hdr : Below w.heap.size w w0.drew := hB0.drew
  have e0 : w0.cell? ⟨w.heap.size, 0, none⟩ = some (.int .i64 3) := one_block hE0 0
  have e1 : w0.cell? ⟨w.heap.size, 1, none⟩ = some (.int .u64 A) := one_block hE0 1
  have e2 : w0.cell? ⟨w.heap.size, 2, none⟩ = some (.int .i64 fr) := one_block hE0 2
  have e3 : w0.cell? ⟨w.heap.size, 3, none⟩ = some (.int .u8 q) := one_block hE0 3
  have e4 : w0.cell? ⟨w.heap.size, 4, none⟩ = some (.bool cp) := one_block hE0 4
  have e5 : w0.cell? ⟨w.heap.size, 5, none⟩ = some (.int .i64 N) := one_block hE0 5
  have o0 : w0.cell? ⟨o, 0, none⟩ = some (.pointer (some ⟨a, 0, none⟩)) := (hB0.cell (p := ⟨o, 0, none⟩) l1).trans (one_block hO.self 0)
  have o1 : w0.cell? ⟨o, 1, none⟩ = some (.pointer (some ⟨c, 0, none⟩)) := (hB0.cell (p := ⟨o, 1, none⟩) l1).trans (one_block hO.self 1)
  have o2 : w0.cell? ⟨o, 2, none⟩ = some (.pointer (some ⟨t, 0, none⟩)) := (hB0.cell (p := ⟨o, 2, none⟩) l1).trans (one_block hO.self 2)
  have o3 : w0.cell? ⟨o, 3, none⟩ = some (.slice H s.hold.length cap) := (hB0.cell (p := ⟨o, 3, none⟩) l1).trans (one_block hO.self 3)
  have HRUN := Lib.hid h
  have HOWN := Lib.hid hO
  have HW0 := Lib.hid hw0
  have HE0 := Lib.hid hE0
  have HR0 := Lib.hid hR0
  have HX0 := Lib.hid hX0
  have HB0 := Lib.hid hB0
  clear h hO hw0 hE0 hR0 hX0 hB0
  have nb : ∀ b, w.heap.size ≤ b → ¬ (S b ∨ b = m ∨ b = c) := fun b hb e => by (rcases e with e | e | e; have := l5 b e; omega; omega; omega)
  have hbr : w.heap.size ≤ w.heap.size + 1 ∧ w.heap.size + 1 < w0.heap.size := by omega
  have hbx : w.heap.size ≤ w.heap.size + 1 + 1 ∧ w.heap.size + 1 + 1 < w0.heap.size := by omega
  have hcall := tfind_any t c a root A w0.drew S s.p s.T (HOWN.out.cache.below hdr).pool ((hdr.block t (by omega)).trans HOWN.out.tab) (by show t < w0.heap.size; omega) (hf.good.tree hf.root) hop.a0
  obtain ⟨⟨l, r⟩, hlr⟩ : ∃ x : Leaf × Int, x = findRes s.T A := ⟨_, rfl⟩
  rw [← hlr] at hcall
  have hcall2 : Calls Tryz.prog 30 #[.pointer (some ⟨t, 0, none⟩), .int .u64 A] w0.drew fun e w1 => e = .returned (.tuple #[.agg #[.int .i64 (l.frame : Int), .int .u8 (l.prot : Int), .bool l.copy], .int .i64 r]) ∧ Hid (CacheAt w1 S c a fs m s.clock s.p s.L) ∧ Hid (Mod (fun b => S b ∨ b = m ∨ b = c) w0 w1) ∧ BoxAt w1 (w.heap.size + 1 + 1) ∧ BoxAt w1 (w.heap.size + 1) := by
    refine hcall.mono ?_
    rintro e w1 ⟨he, hb⟩
    have hm1 : Mod (fun b => S b ∨ b = m ∨ b = c) w0 w1 := (Mod.of hb).undrew
    exact ⟨he, Lib.hid ((HOWN.out.cache.below hdr).below hb), Lib.hid hm1, told_box HX0.out hm1 (nb _ (by omega)), told_box HR0.out hm1 (nb _ (by omega))⟩
  have hres : DoRes ⟨3, A, fr, q, cp, N⟩ s ⟨0, l, r⟩ s := by
    have h9 := DoRes.find (s := s) (o := ⟨3, A, fr, q, cp, N⟩) rfl
    have h8 : findRes s.T A = (l, r) := hlr.symm
    simp only [h8] at h9
    exact h9
  have HC := Lib.hid hcall2
  have HRES := Lib.hid hres
  clear hcall hcall2 hlr hres
  go_enter Tryz.func11, Tryz.ntmps11
  go_upto_region 1 with (fail)
  go_upto_region 10 with (fail)
  rw [← HW0.out]
  go_region_with ((first
    | (go_at_call 30; refine (HC.out).mono ?_; rintro e w1 ⟨rfl, HC1, HM1, ⟨x0, x1, x2, x3, x4, u0, u1, u2, u3, u4, hlt2⟩, ⟨y0, y1, y2, y3, y4, z0, z1, z2, z3, z4, hlt1⟩⟩)))
  all_goals (go_wp2_with fail; exact bodyPost_ret (v := ((Told.mk 0 l r)).val) (by simp [results, Tryz.results11, go_sem, Told.val, Told.err, noLeaf, hlt1, hlt2, x0, x1, x2, x3, x4, y0, y1, y2, y3, y4, u0, u1, u2, u3, u4, z0, z1, z2, z3, z4]) rfl ⟨(Told.mk 0 l r), s, S, H, cap, rfl, (HRUN.out.turn HB0.out HC1.out HM1.out (Out.refl _ _) (by (repeat (refine Mod.set ?_ (by first | exact hbr | exact hbx))); exact Mod.refl _ _) s.T).1, (HRUN.out.turn HB0.out HC1.out HM1.out (Out.refl _ _) (by (repeat (refine Mod.set ?_ (by first | exact hbr | exact hbx))); exact Mod.refl _ _) s.T).2, HRES.out⟩)

set_option maxRecDepth 100000 in
set_option maxHeartbeats 4000000 in
theorem does_other (B o a c fs m t root n k : Nat) (K A fr q N : Int) (cp : Bool) (w : World) (S : Nat → Prop) (s : Sta) (H : Option Addr) (cap : Nat) (h : RunAt w B o a c fs m t root S s H cap) (hf : s.Fine root n k) (hK : K < 0 ∨ 7 < K) :
    Calls Tryz.prog 11 #[.pointer (some ⟨o, 0, none⟩), .agg #[.int .i64 K, .int .u64 A, .int .i64 fr, .int .u8 q, .bool cp, .int .i64 N]] w (DoesPost w B o a c fs m t root S H ⟨K, A, fr, q, cp, N⟩ s) := by
  have hO := h.own
  obtain ⟨l1, l2, l3, l4, l5⟩ := h.lts
  have hpos := hO.cache.pool.pos
  obtain ⟨w0, hw0⟩ : ∃ w0, w0 = ((w.alloc (.cells #[.int .i64 K, .int .u64 A, .int .i64 fr, .int .u8 q, .bool cp, .int .i64 N] 38)).alloc (.cells #[.int .i64 0, .int .i64 0, .int .u8 0, .bool false, .int .i64 0] 34)).alloc (.cells #[.int .i64 0, .int .i64 0, .int .u8 0, .bool false, .int .i64 0] 34) := ⟨_, rfl⟩
  have hB0 : Below w.heap.size w w0 := by (rw [hw0]; exact (((Below.refl _ _).alloc (Nat.le_refl _) _).alloc (by simp) _).alloc (by simp; omega) _)
  have hs0 : w0.heap.size = w.heap.size + 1 + 1 + 1 := by (rw [hw0]; simp)
  have hE0 : w0.heap[w.heap.size]? = some (.cells #[.int .i64 K, .int .u64 A, .int .i64 fr, .int .u8 q, .bool cp, .int .i64 N] 38 (0, 0)) := by (rw [hw0]; exact (Below.heap_alloc _ _ _ (by simp; omega)).trans ((Below.heap_alloc _ _ _ (by simp)).trans (heap_alloc_new w _)))
  have hR0 : w0.heap[w.heap.size + 1]? = some (.cells #[.int .i64 0, .int .i64 0, .int .u8 0, .bool false, .int .i64 0] 34 (0, 0)) := by
    (rw [hw0]
     have e : (w.alloc (.cells #[.int .i64 K, .int .u64 A, .int .i64 fr, .int .u8 q, .bool cp, .int .i64 N] 38)).heap.size = w.heap.size + 1 := by simp
     rw [← e]
     exact (Below.heap_alloc _ _ _ (by simp)).trans (heap_alloc_new _ _))
  have hX0 : w0.heap[w.heap.size + 1 + 1]? = some (.cells #[.int .i64 0, .int .i64 0, .int .u8 0, .bool false, .int .i64 0] 34 (0, 0)) := by
    (rw [hw0]
     have e : ((w.alloc (.cells #[.int .i64 K, .int .u64 A, .int .i64 fr, .int .u8 q, .bool cp, .int .i64 N] 38)).alloc (.cells #[.int .i64 0, .int .i64 0, .int .u8 0, .bool false, .int .i64 0] 34)).heap.size = w.heap.size + 1 + 1 := by simp
     rw [← e]
     exact heap_alloc_new _ _)
  have hdr : Below w.heap.size w w0.drew := hB0.drew
  have e0 : w0.cell? ⟨w.heap.size, 0, none⟩ = some (.int .i64 K) := one_block hE0 0
  have e1 : w0.cell? ⟨w.heap.size, 1, none⟩ = some (.int .u64 A) := one_block hE0 1
  have e2 : w0.cell? ⟨w.heap.size, 2, none⟩ = some (.int .i64 fr) := one_block hE0 2
  have e3 : w0.cell? ⟨w.heap.size, 3, none⟩ = some (.int .u8 q) := one_block hE0 3
  have e4 : w0.cell? ⟨w.heap.size, 4, none⟩ = some (.bool cp) := one_block hE0 4
  have e5 : w0.cell? ⟨w.heap.size, 5, none⟩ = some (.int .i64 N) := one_block hE0 5
  have o0 : w0.cell? ⟨o, 0, none⟩ = some (.pointer (some ⟨a, 0, none⟩)) := (hB0.cell (p := ⟨o, 0, none⟩) l1).trans (one_block hO.self 0)
  have o1 : w0.cell? ⟨o, 1, none⟩ = some (.pointer (some ⟨c, 0, none⟩)) := (hB0.cell (p := ⟨o, 1, none⟩) l1).trans (one_block hO.self 1)
  have o2 : w0.cell? ⟨o, 2, none⟩ = some (.pointer (some ⟨t, 0, none⟩)) := (hB0.cell (p := ⟨o, 2, none⟩) l1).trans (one_block hO.self 2)
  have o3 : w0.cell? ⟨o, 3, none⟩ = some (.slice H s.hold.length cap) := (hB0.cell (p := ⟨o, 3, none⟩) l1).trans (one_block hO.self 3)
  have HRUN := Lib.hid h
  have HOWN := Lib.hid hO
  have HW0 := Lib.hid hw0
  have HE0 := Lib.hid hE0
  have HR0 := Lib.hid hR0
  have HX0 := Lib.hid hX0
  have HB0 := Lib.hid hB0
  clear h hO hw0 hE0 hR0 hX0 hB0
  have hbr : w.heap.size ≤ w.heap.size + 1 ∧ w.heap.size + 1 < w0.heap.size := by omega
  have hbx : w.heap.size ≤ w.heap.size + 1 + 1 ∧ w.heap.size + 1 + 1 < w0.heap.size := by omega
  have k0 : (K == 0) = false := by rw [beq_eq_false_iff_ne]; omega
  have k1 : (K == 1) = false := by rw [beq_eq_false_iff_ne]; omega
  have k2 : (K == 2) = false := by rw [beq_eq_false_iff_ne]; omega
  have k3 : (K == 3) = false := by rw [beq_eq_false_iff_ne]; omega
  have k4 : (K == 4) = false := by rw [beq_eq_false_iff_ne]; omega
  have k5 : (K == 5) = false := by rw [beq_eq_false_iff_ne]; omega
  have k6 : (K == 6) = false := by rw [beq_eq_false_iff_ne]; omega
  have k7 : (K == 7) = false := by rw [beq_eq_false_iff_ne]; omega
  have HK := Lib.hid hK
  have hm0 : Mod (fun b => S b ∨ b = m ∨ b = c) w0 w0 := Mod.refl _ _
  obtain ⟨x0, x1, x2, x3, x4, u0, u1, u2, u3, u4, hlt2⟩ := told_box (X := fun _ => False) HX0.out (Mod.refl _ _) id
  obtain ⟨y0, y1, y2, y3, y4, z0, z1, z2, z3, z4, hlt1⟩ := told_box (X := fun _ => False) HR0.out (Mod.refl _ _) id
  clear hK
  go_enter Tryz.func11, Tryz.ntmps11
  go_upto_region 1 with (fail)
  go_upto_region 2 with (fail)
  rw [← HW0.out]
  go_wp2_with fail
  exact bodyPost_ret (v := ((Told.err 0)).val) (by simp [results, Tryz.results11, go_sem, Told.val, Told.err, noLeaf, hlt1, hlt2, x0, x1, x2, x3, x4, y0, y1, y2, y3, y4, u0, u1, u2, u3, u4, z0, z1, z2, z3, z4]) rfl ⟨(Told.err 0), s, S, H, cap, rfl, (HRUN.out.turn HB0.out (HOWN.out.cache.below HB0.out) hm0 (Out.refl _ _) (by (repeat (refine Mod.set ?_ (by first | exact hbr | exact hbx))); exact Mod.refl _ _) s.T).1, (HRUN.out.turn HB0.out (HOWN.out.cache.below HB0.out) hm0 (Out.refl _ _) (by (repeat (refine Mod.set ?_ (by first | exact hbr | exact hbx))); exact Mod.refl _ _) s.T).2, .other HK.out⟩

end Go.Proofs.YtmkgdgfbdmjeeaaGreatDoor
