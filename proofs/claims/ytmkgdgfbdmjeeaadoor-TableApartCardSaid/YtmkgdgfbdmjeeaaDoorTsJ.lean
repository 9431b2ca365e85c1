/- What is done with a table: does, Give. -/
import Derived.Test.YtmkgdgfbdmjeeaaDoorTsI
import Derived.Deep.QuietTactic
import Derived.BigQuiet
import Derived.Lib.QuietBelow
namespace Go.Proofs.YtmkgdgfbdmjeeaaDoor
open Go.RowKit Go.Sort
set_option linter.unusedSimpArgs false
set_option linter.unusedVariables false

theorem RunAt.below {w w' : World} {B o a c fs m t root : Nat} {S : Nat → Prop} {s : Sta} {H : Option Addr} {cap : Nat} (h : RunAt w B o a c fs m t root S s H cap) (hb : Below w.heap.size w w') : RunAt w' B o a c fs m t root S s H cap :=
  h.mod (X := fun _ => False) (Mod.of hb) (fun _ e => e.elim)

set_option maxRecDepth 100000 in
set_option maxHeartbeats 4000000 in
theorem does_giveNo (B o a c fs m t root n k : Nat) (A fr q N : Int) (cp : Bool) (w : World) (S : Nat → Prop) (s : Sta) (H : Option Addr) (cap : Nat) (h : RunAt w B o a c fs m t root S s H cap) (hf : s.Fine root n k) (hk : k ≤ 100000) (hN : N < 0 ∨ (s.hold.length : Int) ≤ N) :
    Calls Tryd.prog 27 #[.pointer (some ⟨o, 0, none⟩), .agg #[.int .i64 6, .int .u64 A, .int .i64 fr, .int .u8 q, .bool cp, .int .i64 N]] w (DoesPost w B o a c fs m t root S H ⟨6, A, fr, q, cp, N⟩ s) := by
  have hO := h.own
  obtain ⟨l1, l2, l3, l4, l5⟩ := h.lts
  have hpos := hO.cache.pool.pos
  obtain ⟨w0, hw0⟩ : ∃ w0, w0 = ((w.alloc (.cells #[.int .i64 6, .int .u64 A, .int .i64 fr, .int .u8 q, .bool cp, .int .i64 N] 24)).alloc (.cells #[.int .i64 0, .int .i64 0, .int .u8 0, .bool false, .int .i64 0] 54)).alloc (.cells #[.int .i64 0, .int .i64 0, .int .u8 0, .bool false, .int .i64 0] 54) := ⟨_, rfl⟩
  have hB0 : Below w.heap.size w w0 := by (rw [hw0]; exact (((Below.refl _ _).alloc (Nat.le_refl _) _).alloc (by simp) _).alloc (by simp; omega) _)
  have hs0 : w0.heap.size = w.heap.size + 1 + 1 + 1 := by (rw [hw0]; simp)
  have hE0 : w0.heap[w.heap.size]? = some (.cells #[.int .i64 6, .int .u64 A, .int .i64 fr, .int .u8 q, .bool cp, .int .i64 N] 24 (0, 0)) := by (rw [hw0]; exact (Below.heap_alloc _ _ _ (by simp; omega)).trans ((Below.heap_alloc _ _ _ (by simp)).trans (heap_alloc_new w _)))
  have hR0 : w0.heap[w.heap.size + 1]? = some (.cells #[.int .i64 0, .int .i64 0, .int .u8 0, .bool false, .int .i64 0] 54 (0, 0)) := by
    (rw [hw0]
     have e : (w.alloc (.cells #[.int .i64 6, .int .u64 A, .int .i64 fr, .int .u8 q, .bool cp, .int .i64 N] 24)).heap.size = w.heap.size + 1 := by simp
     rw [← e]
     exact (Below.heap_alloc _ _ _ (by simp)).trans (heap_alloc_new _ _))
  have hX0 : w0.heap[w.heap.size + 1 + 1]? = some (.cells #[.int .i64 0, .int .i64 0, .int .u8 0, .bool false, .int .i64 0] 54 (0, 0)) := by
    (rw [hw0]
     have e : ((w.alloc (.cells #[.int .i64 6, .int .u64 A, .int .i64 fr, .int .u8 q, .bool cp, .int .i64 N] 24)).alloc (.cells #[.int .i64 0, .int .i64 0, .int .u8 0, .bool false, .int .i64 0] 54)).heap.size = w.heap.size + 1 + 1 := by simp
     rw [← e]
     exact heap_alloc_new _ _)
  have hdr : Below w.heap.size w w0.drew := hB0.drew
  have e0 : w0.cell? ⟨w.heap.size, 0, none⟩ = some (.int .i64 6) := one_block hE0 0
  have e1 : w0.cell? ⟨w.heap.size, 1, none⟩ = some (.int .u64 A) := one_block hE0 1
  have e2 : w0.cell? ⟨w.heap.size, 2, none⟩ = some (.int .i64 fr) := one_block hE0 2
  have e3 : w0.cell? ⟨w.heap.size, 3, none⟩ = some (.int .u8 q) := one_block hE0 3
  have e4 : w0.cell? ⟨w.heap.size, 4, none⟩ = some (.bool cp) := one_block hE0 4
  have e5 : w0.cell? ⟨w.heap.size, 5, none⟩ = some (.int .i64 N) := one_block hE0 5
  have o0 : w0.cell? ⟨o, 0, none⟩ = some (.pointer (some ⟨a, 0, none⟩)) := (hB0.cell (p := ⟨o, 0, none⟩) l1).trans (one_block hO.self 0)
  have o1 : w0.cell? ⟨o, 1, none⟩ = some (.pointer (some ⟨c, 0, none⟩)) := (hB0.cell (p := ⟨o, 1, none⟩) l1).trans (one_block hO.self 1)
  have o2 : w0.cell? ⟨o, 2, none⟩ = some (.pointer (some ⟨t, 0, none⟩)) := (hB0.cell (p := ⟨o, 2, none⟩) l1).trans (one_block hO.self 2)
  have o3 : w0.cell? ⟨o, 3, none⟩ = some (.slice H s.hold.length cap) := (hB0.cell (p := ⟨o, 3, none⟩) l1).trans (one_block hO.self 3)
  have HRUN := Lib.hid h
  have HOWN := Lib.hid hO
  have HW0 := Lib.hid hw0
  have HE0 := Lib.hid hE0
  have HR0 := Lib.hid hR0
  have HX0 := Lib.hid hX0
  have HB0 := Lib.hid hB0
  clear h hO hw0 hE0 hR0 hX0 hB0
  have hbr : w.heap.size ≤ w.heap.size + 1 ∧ w.heap.size + 1 < w0.heap.size := by omega
  have hbx : w.heap.size ≤ w.heap.size + 1 + 1 ∧ w.heap.size + 1 + 1 < w0.heap.size := by omega
  have d0 : ∀ d os, (grow (redrawn w0 d) os).cell? ⟨o, 3, none⟩ = some (.slice H s.hold.length cap) := fun d os => cell_regrown o3 d os
  have d1 : ∀ d os, (grow (redrawn w0 d) os).cell? ⟨w.heap.size, 5, none⟩ = some (.int .i64 N) := fun d os => cell_regrown e5 d os
  have hG := fun d os => Calls.regrown_of ((lat_no H s.hold.length cap N (grow (redrawn w0 d) os) hN).mono fun _ _ ⟨h1, h2⟩ => ⟨h1, h2 ▸ Below.refl _ _⟩)
  have HG := Lib.hid hG
  have HN := Lib.hid hN
  clear hG hN
  go_enter Tryd.func27, Tryd.ntmps27
  go_upto_region 1 with (fail)
  go_upto_region 18 with (fail)
  rw [← HW0.out]
  refine wp_region_quiet_below (by kernel_rfl) (by kernel_rfl) ?_; (repeat (go_big_quiet_step ((exact HG.out _ _)))); refine wpQuiet_nil ?_; intro _ hw'; obtain ⟨⟨dq, osq⟩, hw''⟩ := hw'; subst hw''; have hbq := below_regrown (w0) dq osq; generalize grow (redrawn (w0) dq) osq = wq at hbq ⊢
  clear d0 d1 e0 e1 e2 e3 e4 e5 o0 o1 o2 o3
  have hm1 : Mod (fun b => S b ∨ b = m ∨ b = c) w0 wq := Mod.of hbq
  obtain ⟨x0, x1, x2, x3, x4, u0, u1, u2, u3, u4, hlt2⟩ := told_box (X := fun _ => False) HX0.out (Mod.of hbq) id
  obtain ⟨y0, y1, y2, y3, y4, z0, z1, z2, z3, z4, hlt1⟩ := told_box (X := fun _ => False) HR0.out (Mod.of hbq) id
  go_wp2_with fail
  exact bodyPost_ret (v := ((Told.err 0)).val) (by simp [results, Tryd.results27, go_sem, Told.val, Told.err, noLeaf, hlt1, hlt2, x0, x1, x2, x3, x4, y0, y1, y2, y3, y4, u0, u1, u2, u3, u4, z0, z1, z2, z3, z4]) rfl ⟨(Told.err 0), s, S, H, cap, rfl, (HRUN.out.turn HB0.out ((HOWN.out.cache.below HB0.out).below hbq) hm1 (Out.refl _ _) (by (repeat (refine Mod.set ?_ (by first | exact hbr | exact hbx))); exact Mod.refl _ _) s.T).1, (HRUN.out.turn HB0.out ((HOWN.out.cache.below HB0.out).below hbq) hm1 (Out.refl _ _) (by (repeat (refine Mod.set ?_ (by first | exact hbr | exact hbx))); exact Mod.refl _ _) s.T).2, .giveNone rfl HN.out⟩

set_option maxRecDepth 100000 in
set_option maxHeartbeats 4000000 in
theorem does_give (B o a c fs m t root n k i f : Nat) (A fr q : Int) (cp : Bool) (w : World) (S : Nat → Prop) (s : Sta) (H : Option Addr) (cap : Nat) (h : RunAt w B o a c fs m t root S s H cap) (hf : s.Fine root n k) (hk : k ≤ 100000) (hi : s.hold[i]? = some f) :
    Calls Tryd.prog 27 #[.pointer (some ⟨o, 0, none⟩), .agg #[.int .i64 6, .int .u64 A, .int .i64 fr, .int .u8 q, .bool cp, .int .i64 (i : Int)]] w (DoesPost w B o a c fs m t root S H ⟨6, A, fr, q, cp, (i : Int)⟩ s) := by
  obtain ⟨N, hNi⟩ : ∃ N : Int, N = (i : Int) := ⟨_, rfl⟩
  rw [← hNi]
  have hO := h.own
  obtain ⟨l1, l2, l3, l4, l5⟩ := h.lts
  have hpos := hO.cache.pool.pos
  obtain ⟨w0, hw0⟩ : ∃ w0, w0 = ((w.alloc (.cells #[.int .i64 6, .int .u64 A, .int .i64 fr, .int .u8 q, .bool cp, .int .i64 N] 24)).alloc (.cells #[.int .i64 0, .int .i64 0, .int .u8 0, .bool false, .int .i64 0] 54)).alloc (.cells #[.int .i64 0, .int .i64 0, .int .u8 0, .bool false, .int .i64 0] 54) := ⟨_, rfl⟩
  have hB0 : Below w.heap.size w w0 := by (rw [hw0]; exact (((Below.refl _ _).alloc (Nat.le_refl _) _).alloc (by simp) _).alloc (by simp; omega) _)
  have hs0 : w0.heap.size = w.heap.size + 1 + 1 + 1 := by (rw [hw0]; simp)
  have hE0 : w0.heap[w.heap.size]? = some (.cells #[.int .i64 6, .int .u64 A, .int .i64 fr, .int .u8 q, .bool cp, .int .i64 N] 24 (0, 0)) := by (rw [hw0]; exact (Below.heap_alloc _ _ _ (by simp; omega)).trans ((Below.heap_alloc _ _ _ (by simp)).trans (heap_alloc_new w _)))
  have hR0 : w0.heap[w.heap.size + 1]? = some (.cells #[.int .i64 0, .int .i64 0, .int .u8 0, .bool false, .int .i64 0] 54 (0, 0)) := by
    (rw [hw0]
     have e : (w.alloc (.cells #[.int .i64 6, .int .u64 A, .int .i64 fr, .int .u8 q, .bool cp, .int .i64 N] 24)).heap.size = w.heap.size + 1 := by simp
     rw [← e]
     exact (Below.heap_alloc _ _ _ (by simp)).trans (heap_alloc_new _ _))
  have hX0 : w0.heap[w.heap.size + 1 + 1]? = some (.cells #[.int .i64 0, .int .i64 0, .int .u8 0, .bool false, .int .i64 0] 54 (0, 0)) := by
    (rw [hw0]
     have e : ((w.alloc (.cells #[.int .i64 6, .int .u64 A, .int .i64 fr, .int .u8 q, .bool cp, .int .i64 N] 24)).alloc (.cells #[.int .i64 0, .int .i64 0, .int .u8 0, .bool false, .int .i64 0] 54)).heap.size = w.heap.size + 1 + 1 := by simp
     rw [← e]
     exact heap_alloc_new _ _)
  have hdr : Below w.heap.size w w0.drew := hB0.drew
  have e0 : w0.cell? ⟨w.heap.size, 0, none⟩ = some (.int .i64 6) := one_block hE0 0
  have e1 : w0.cell? ⟨w.heap.size, 1, none⟩ = some (.int .u64 A) := one_block hE0 1
  have e2 : w0.cell? ⟨w.heap.size, 2, none⟩ = some (.int .i64 fr) := one_block hE0 2
  have e3 : w0.cell? ⟨w.heap.size, 3, none⟩ = some (.int .u8 q) := one_block hE0 3
  have e4 : w0.cell? ⟨w.heap.size, 4, none⟩ = some (.bool cp) := one_block hE0 4
  have e5 : w0.cell? ⟨w.heap.size, 5, none⟩ = some (.int .i64 N) := one_block hE0 5
  have o0 : w0.cell? ⟨o, 0, none⟩ = some (.pointer (some ⟨a, 0, none⟩)) := (hB0.cell (p := ⟨o, 0, none⟩) l1).trans (one_block hO.self 0)
  have o1 : w0.cell? ⟨o, 1, none⟩ = some (.pointer (some ⟨c, 0, none⟩)) := (hB0.cell (p := ⟨o, 1, none⟩) l1).trans (one_block hO.self 1)
  have o2 : w0.cell? ⟨o, 2, none⟩ = some (.pointer (some ⟨t, 0, none⟩)) := (hB0.cell (p := ⟨o, 2, none⟩) l1).trans (one_block hO.self 2)
  have o3 : w0.cell? ⟨o, 3, none⟩ = some (.slice H s.hold.length cap) := (hB0.cell (p := ⟨o, 3, none⟩) l1).trans (one_block hO.self 3)
  have HRUN := Lib.hid h
  have HOWN := Lib.hid hO
  have HW0 := Lib.hid hw0
  have HE0 := Lib.hid hE0
  have HR0 := Lib.hid hR0
  have HX0 := Lib.hid hX0
  have HB0 := Lib.hid hB0
  clear h hO hw0 hE0 hR0 hX0 hB0
  have hbr : w.heap.size ≤ w.heap.size + 1 ∧ w.heap.size + 1 < w0.heap.size := by omega
  have hbx : w.heap.size ≤ w.heap.size + 1 + 1 ∧ w.heap.size + 1 + 1 < w0.heap.size := by omega
  have d0 : ∀ d os, (grow (redrawn w0 d) os).cell? ⟨o, 3, none⟩ = some (.slice H s.hold.length cap) := fun d os => cell_regrown o3 d os
  have d1 : ∀ d os, (grow (redrawn w0 d) os).cell? ⟨w.heap.size, 5, none⟩ = some (.int .i64 N) := fun d os => cell_regrown e5 d os
  have hrun0 := HRUN.out.below HB0.out
  have hG : ∀ d os, _ := fun d os => Calls.regrown_of ((lat_yes B H cap i f s.hold (grow (redrawn w0 d) os) (hrun0.below (below_regrown w0 d os)).row hi).mono fun _ _ ⟨h1, h2⟩ => ⟨h1, h2 ▸ Below.refl _ _⟩)
  rw [← hNi] at hG
  have hil : i < s.hold.length := (List.getElem?_eq_some_iff.1 hi).1
  have hless := fun W (hW : Below w0.heap.size w0 W) => less_any B H cap i s.hold W (hrun0.below hW).row hil (by have := hf.few; omega)
  rw [← hNi] at hless
  have hfn : f < s.p.n := by rw [hf.size]; exact hf.low f (List.mem_of_getElem? hi)
  have hfc : 1 ≤ s.p.cnt f := by
    have h1 := hf.good.cnt f hfn
    have h2 := cntH_pos hi
    unfold held at h1
    omega
  have hlen : (s.hold.eraseIdx i).length = s.hold.length - 1 := by rw [List.length_eraseIdx, if_pos hil]
  have hres : DoRes ⟨6, A, fr, q, cp, N⟩ s (.err 0) ⟨s.p.down f, s.T, s.L, s.clock, s.hold.eraseIdx i⟩ := by
    have h9 := DoRes.give (s := s) (o := ⟨6, A, fr, q, cp, N⟩) f rfl (by show 0 ≤ N; omega) (by show s.hold[N.toNat]? = some f; rw [hNi, Int.toNat_natCast]; exact hi)
    simp only [hNi, Int.toNat_natCast] at h9 ⊢
    exact h9
  have HRES := Lib.hid hres
  have HG := Lib.hid hG
  have HLESS := Lib.hid hless
  have HRUN0 := Lib.hid hrun0
  clear hG hNi hless hi hrun0 hres
  go_enter Tryd.func27, Tryd.ntmps27
  go_upto_region 1 with (fail)
  go_upto_region 18 with (fail)
  rw [← HW0.out]
  refine wp_region_quiet_below (by kernel_rfl) (by kernel_rfl) ?_; (repeat (go_big_quiet_step ((exact HG.out _ _)))); refine wpQuiet_nil ?_; intro _ hw'; obtain ⟨⟨dq, osq⟩, hw''⟩ := hw'; subst hw''; have hbq := below_regrown (w0) dq osq; generalize grow (redrawn (w0) dq) osq = wq at hbq ⊢
  clear d0 d1 e0 e1 e2 e3 e4 o0 o1 o2
  have hzq := hbq.size
  have q3 : wq.cell? ⟨o, 3, none⟩ = some (.slice H s.hold.length cap) := (hbq.cell (p := ⟨o, 3, none⟩) (by show o < _; omega)).trans o3
  have q5 : wq.cell? ⟨w.heap.size, 5, none⟩ = some (.int .i64 N) := (hbq.cell (p := ⟨w.heap.size, 5, none⟩) (by show w.heap.size < _; omega)).trans e5
  clear o3 e5
  have hdq : Below wq.heap.size wq wq.drew := (Below.refl _ _).drew
  have hrunq := HRUN0.out.below hbq
  have hoq : o < wq.heap.size := hrunq.lts.1
  have hcall : Calls Tryd.prog 76 #[.slice H s.hold.length cap, .int .i64 N] wq.drew fun e w2 => ∃ g cap', e = .returned (.slice (some ⟨g, 0, none⟩) (s.hold.length - 1) cap') ∧ Hid (OwnN w2 wq.heap.size (some ⟨g, 0, none⟩) cap' (s.hold.eraseIdx i)) ∧ Hid (Below wq.heap.size wq w2) ∧ w2.cell? ⟨o, 3, none⟩ = some (.slice H s.hold.length cap) ∧ w2.frozen? ⟨o, 3, none⟩ = false := by
    refine (HLESS.out wq.drew (hbq.trans (hdq.mono hzq))).mono ?_
    rintro e w2 ⟨g, cap', rfl, ho2, hb2⟩
    have hbb : Below wq.heap.size wq w2 := hdq.trans hb2
    have hO2 := (hbb.block o hoq).trans hrunq.own.self
    exact ⟨g, cap', by rw [hlen], Lib.hid ho2, Lib.hid hbb, one_block hO2 3, one_free hO2 3⟩
  have HRQ := Lib.hid hrunq
  have HC := Lib.hid hcall
  have HBQ := Lib.hid hbq
  clear hcall hrunq HLESS hdq
  go_upto_region 20 with (fail)
  go_region_with ((first
    | (go_at_call 76; refine (HC.out).mono ?_; rintro e w2 ⟨g, cap', rfl, HO2, HB2, p1, p2⟩)))
  all_goals
    obtain ⟨w3, hw3⟩ : ∃ w3, w3 = w2.setCell ⟨o, 3, none⟩ (.slice (some ⟨g, 0, none⟩) (s.hold.length - 1) cap') := ⟨_, rfl⟩
    rw [← hw3]
    have hm23 : Mod (fun b => b = o) w2 w3 := by rw [hw3]; exact mod_set (S := fun b => b = o) rfl 3 _
    have hmq3 : Mod (fun b => b = o ∨ H = some ⟨b, 0, none⟩) wq w3 := (Mod.of HB2.out).trans (Out.refl _ _) (hm23.sub fun b hb => .inl hb)
    have hO2 := (HB2.out.block o hoq).trans HRQ.out.own.self
    have hO3 : w3.heap[o]? = some (.cells #[.pointer (some ⟨a, 0, none⟩), .pointer (some ⟨c, 0, none⟩), .pointer (some ⟨t, 0, none⟩), .slice (some ⟨g, 0, none⟩) (s.hold.eraseIdx i).length cap'] 36 (0, 0)) := by
      rw [hw3, hlen]
      have h8 := Joins.block_setCell (i := 3) hO2 (.slice (some ⟨g, 0, none⟩) (s.hold.length - 1) cap')
      simpa using h8
    have hgq := HO2.out.formS
    have hrow3 : OwnN w3 B (some ⟨g, 0, none⟩) cap' (s.hold.eraseIdx i) := (HO2.out.lower HRQ.out.base).same fun b hb => by
      injection hb with hb
      injection hb with hb
      subst hb
      exact hm23.block _ hgq.2.1 (by omega)
    have hrun3 := HRQ.out.rehold hmq3 hO3 hrow3 (fun b hb => by injection hb with hb; injection hb with hb; subst hb; exact .inr hgq.1)
    have r0 : w3.cell? ⟨o, 0, none⟩ = some (.pointer (some ⟨a, 0, none⟩)) := one_block hO3 0
    have HR3 := Lib.hid hrun3
    have HM3 := Lib.hid hmq3
    clear hw3 hm23 hmq3 hO2 hO3 hrow3 hrun3 p1 p2 q3 q5
    go_upto_region 24 with (first
      | (go_at_call 58; refine (down_yes a f w3 S s.p HR3.out.own.cache.pool hfn hfc).mono ?_; rintro e w4 ⟨rfl, hP4, hm4⟩; have HP4 := Lib.hid hP4; have HM4 := Lib.hid hm4; clear hP4 hm4; have hm04 : Mod (fun b => S b ∨ b = o ∨ H = some ⟨b, 0, none⟩) w0 w4 := (Mod.of HBQ.out).trans (Out.refl _ _) ((HM3.out.sub fun b hb => .inr hb).trans (Out.refl _ _) (HM4.out.sub fun b hb => .inl hb)); have hnx : ∀ b, w.heap.size ≤ b → ¬ (S b ∨ b = o ∨ H = some ⟨b, 0, none⟩) := (fun b hb e => by (rcases e with e | e | e; have := l5 b e; omega; omega; have := (HRUN.out.row.lt b e).2; omega)); obtain ⟨x0, x1, x2, x3, x4, u0, u1, u2, u3, u4, hlt2⟩ := told_box HX0.out hm04 (hnx _ (by omega)); obtain ⟨y0, y1, y2, y3, y4, z0, z1, z2, z3, z4, hlt1⟩ := told_box HR0.out hm04 (hnx _ (by omega)); clear hm04)
      | fail)
    have hC4 := HR3.out.own.cache.turn HM4.out HP4.out (Out.refl _ _)
    obtain ⟨hrun4, hbel4⟩ := HR3.out.turn (Below.refl _ _) hC4 (HM4.out.sub fun b hb => .inl hb) (Out.refl _ _) (Mod.refl (fun b => w3.heap.size ≤ b ∧ b < w3.heap.size) w4) s.T
    have hok : ∀ b, (w.heap.size ≤ b ∧ b < w0.heap.size) → B ≤ b ∧ ¬ S b ∧ b ≠ o ∧ b ≠ c ∧ b ≠ m ∧ b ≠ t ∧ b ≠ 0 ∧ (some ⟨g, 0, none⟩ : Option Addr) ≠ some ⟨b, 0, none⟩ := fun b hb => by
      have hBw := HRUN.out.base
      refine ⟨by omega, fun e => by have := l5 b e; omega, by omega, by omega, by omega, by omega, by omega, fun e => ?_⟩
      injection e with e
      injection e with e
      omega
    have HR4 := Lib.hid hrun4
    have HB4 := Lib.hid ((HRUN.out.below HB0.out).base)
    have hbw4 : Mod (fun b => Runs S o c m t H b ∨ w.heap.size ≤ b) w w4 := (Mod.of HB0.out).trans (Out.refl _ _) ((Mod.of HBQ.out).trans (Out.refl _ _) ((HM3.out.sub fun b hb => .inl (hb.elim (fun e => .inr (.inl e)) (fun e => .inr (.inr (.inr (.inr (.inr e))))))).trans (Out.refl _ _) (HM4.out.sub fun b hb => .inl (.inl hb))))
    have HBW4 := Lib.hid hbw4
    clear hC4 hrun4 hbel4 hbw4 r0
    go_wp2_with fail
    have hm6 : ∀ W, Mod (fun b => w.heap.size ≤ b ∧ b < w0.heap.size) w4 W → RunAt W B o a c fs m t root S ⟨s.p.down f, s.T, s.L, s.clock, s.hold.eraseIdx i⟩ (some ⟨g, 0, none⟩) cap' ∧ Mod (Runs S o c m t H) w W := fun W hW => ⟨HR4.out.mod hW hok, Mod.old (HBW4.out.trans (Out.refl _ _) (hW.sub fun b hb => .inr hb.1))⟩
    exact bodyPost_ret (v := ((Told.err 0)).val) (by simp [results, Tryd.results27, go_sem, Told.val, Told.err, noLeaf, hlt1, hlt2, x0, x1, x2, x3, x4, y0, y1, y2, y3, y4, u0, u1, u2, u3, u4, z0, z1, z2, z3, z4]) rfl ⟨(Told.err 0), ⟨s.p.down f, s.T, s.L, s.clock, s.hold.eraseIdx i⟩, S, (some ⟨g, 0, none⟩), cap', rfl, (hm6 _ (by (repeat (refine Mod.set ?_ (by first | exact hbr | exact hbx))); exact Mod.refl _ _)).1, (hm6 _ (by (repeat (refine Mod.set ?_ (by first | exact hbr | exact hbx))); exact Mod.refl _ _)).2, HRES.out⟩

end Go.Proofs.YtmkgdgfbdmjeeaaDoor
