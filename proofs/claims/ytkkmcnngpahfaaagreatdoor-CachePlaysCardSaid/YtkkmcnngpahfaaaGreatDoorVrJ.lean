/- Both caches beside each other: does: hold, give. -/
import Derived.Test.YtkkmcnngpahfaaaGreatDoorVrG
import Derived.Test.YtkkmcnngpahfaaaGreatDoorMgc
import Derived.Deep.RegionLaw
import Derived.Deep.AppendLies
import Derived.Deep.QuietTactic
import Derived.BigQuiet
import Derived.Lib.QuietBelow
namespace Go.Proofs.YtkkmcnngpahfaaaGreatDoor
open Go.RowKit Go.Sort
set_option linter.unusedSimpArgs false
set_option linter.unusedVariables false
variable {w : World} {x : Loc} {S : Nat → Prop} {y : DcW} {F : List Nd} {s : St8} {D : List Slot} {Hl Hh : Option Addr} {cl ch n k : Nat}

set_option maxRecDepth 100000 in
set_option maxHeartbeats 4000000 in
theorem does2_holdNo (ino page N : Int) (h : Run2 w x S y F s s.p D Hl cl Hh ch) (ha : Alike8 F n k s s.p D) (hk : k ≤ 1000) (hp : pick s.l N = none) :
    Calls Tryz.prog 16 #[.pointer (some ⟨x.o, 0, none⟩), .agg #[.int .i64 2, .int .i64 ino, .int .i64 page, .int .i64 N]] w (Does2P w x F n k ⟨2, ino, page, N⟩ s) := by
  have hBw := h.base
  have l1 := (h.ltO _ (.inl rfl)).2
  obtain ⟨w0, hw0⟩ : ∃ w0, w0 = w.alloc (.cells #[.int .i64 (2), .int .i64 ino, .int .i64 page, .int .i64 N] 50) := ⟨_, rfl⟩
  have hB0 : Below w.heap.size w w0 := (by rw [hw0]; exact (Below.refl _ _).alloc (Nat.le_refl _) _)
  have hE0 : w0.heap[w.heap.size]? = some (.cells #[.int .i64 (2), .int .i64 ino, .int .i64 page, .int .i64 N] 50 (0, 0)) := (by rw [hw0]; exact heap_alloc_new w _)
  have e0 : w0.cell? ⟨w.heap.size, 0, none⟩ = some (.int .i64 (2)) := one_block hE0 0
  have e1 : w0.cell? ⟨w.heap.size, 1, none⟩ = some (.int .i64 ino) := one_block hE0 1
  have e2 : w0.cell? ⟨w.heap.size, 2, none⟩ = some (.int .i64 page) := one_block hE0 2
  have e3 : w0.cell? ⟨w.heap.size, 3, none⟩ = some (.int .i64 N) := one_block hE0 3
  have lE := (Array.getElem?_eq_some_iff.1 hE0).1
  have hrun := h.below hB0
  have hdr : Below w0.heap.size w0 w0.drew := (Below.refl _ _).drew
  have hfx := ha.facts hk
  have hcapx := h.cap
  have hnP : ¬ xP S x.c x.m w.heap.size := fun e => by have := (h.ltP _ e).2; omega
  have hnD : ¬ dcB y s.p.n w.heap.size := fun e => by have := (h.doc.lt _ e).2; omega
  have HRUN := Lib.hid hrun
  have HW0 := Lib.hid hw0
  have HB0 := Lib.hid hB0
  have HA := Lib.hid ha
  have HE0 := Lib.hid hE0
  have HFX := Lib.hid hfx
  have HCAP := Lib.hid hcapx
  have HNP := Lib.hid hnP
  have HND := Lib.hid hnD
  have HDR := Lib.hid hdr
  clear h hw0 hB0 ha hE0 hrun hfx hcapx hnP hnD hdr
  have o3 : w0.cell? ⟨x.o, 4, none⟩ = some (.slice Hl s.l.length cl) := one_block HRUN.out.self 4
  have d0 : ∀ d os, (grow (redrawn w0 d) os).cell? ⟨x.o, 4, none⟩ = some (.slice Hl s.l.length cl) := fun d os => cell_regrown o3 d os
  have d1 : ∀ d os, (grow (redrawn w0 d) os).cell? ⟨w.heap.size, 3, none⟩ = some (.int .i64 N) := fun d os => cell_regrown e3 d os
  have hG := fun d os => Calls.regrown_of ((at8_no Hl cl s.l N (grow (redrawn w0 d) os) hp).mono fun _ _ ⟨h1, h2⟩ => ⟨h1, h2 ▸ Below.refl _ _⟩)
  have HG := Lib.hid hG
  have HP := Lib.hid hp
  clear hG hp
  go_enter Tryz.func16, Tryz.ntmps16
  go_upto_region 1 with (fail)
  rw [← HW0.out]
  go_upto_region 16 with (fail)
  refine wp_region_quiet_below (by kernel_rfl) (by kernel_rfl) ?_; (repeat (go_big_quiet_step ((exact HG.out _ _)))); refine wpQuiet_nil ?_; intro _ hw'; obtain ⟨⟨dq, osq⟩, hw''⟩ := hw'; subst hw''; have hbq := below_regrown (w0) dq osq; generalize grow (redrawn (w0) dq) osq = wq at hbq ⊢
  clear d0 d1 e0 e1 e2 e3 o3
  go_wp2_with fail
  go_ret
  exact ⟨rfl, s, S, y, D, Hl, cl, Hh, ch, HRUN.out.below hbq, .holdNo rfl HP.out, HA.out.ord, HB0.out.mono hBw |>.trans (hbq.mono (Nat.le_trans hBw HB0.out.size))⟩

set_option maxRecDepth 100000 in
set_option maxHeartbeats 4000000 in
theorem does2_hold {f : Nat} (ino page N : Int) (h : Run2 w x S y F s s.p D Hl cl Hh ch) (ha : Alike8 F n k s s.p D) (hk : k ≤ 1000) (hp : pick s.l N = some f) :
    Calls Tryz.prog 16 #[.pointer (some ⟨x.o, 0, none⟩), .agg #[.int .i64 2, .int .i64 ino, .int .i64 page, .int .i64 N]] w (Does2P w x F n k ⟨2, ino, page, N⟩ s) := by
  have hfn : f < s.p.n := by rw [ha.fine.size]; exact ha.fine.lowL f (List.mem_of_getElem? (pick_some hp).2.2)
  have hcf := (ha.facts hk).2.2 f hfn
  have hfew := ha.fine.few
  have hBw := h.base
  have l1 := (h.ltO _ (.inl rfl)).2
  obtain ⟨w0, hw0⟩ : ∃ w0, w0 = w.alloc (.cells #[.int .i64 (2), .int .i64 ino, .int .i64 page, .int .i64 N] 50) := ⟨_, rfl⟩
  have hB0 : Below w.heap.size w w0 := (by rw [hw0]; exact (Below.refl _ _).alloc (Nat.le_refl _) _)
  have hE0 : w0.heap[w.heap.size]? = some (.cells #[.int .i64 (2), .int .i64 ino, .int .i64 page, .int .i64 N] 50 (0, 0)) := (by rw [hw0]; exact heap_alloc_new w _)
  have e0 : w0.cell? ⟨w.heap.size, 0, none⟩ = some (.int .i64 (2)) := one_block hE0 0
  have e1 : w0.cell? ⟨w.heap.size, 1, none⟩ = some (.int .i64 ino) := one_block hE0 1
  have e2 : w0.cell? ⟨w.heap.size, 2, none⟩ = some (.int .i64 page) := one_block hE0 2
  have e3 : w0.cell? ⟨w.heap.size, 3, none⟩ = some (.int .i64 N) := one_block hE0 3
  have lE := (Array.getElem?_eq_some_iff.1 hE0).1
  have hrun := h.below hB0
  have hdr : Below w0.heap.size w0 w0.drew := (Below.refl _ _).drew
  have hfx := ha.facts hk
  have hcapx := h.cap
  have hnP : ¬ xP S x.c x.m w.heap.size := fun e => by have := (h.ltP _ e).2; omega
  have hnD : ¬ dcB y s.p.n w.heap.size := fun e => by have := (h.doc.lt _ e).2; omega
  have HRUN := Lib.hid hrun
  have HW0 := Lib.hid hw0
  have HB0 := Lib.hid hB0
  have HA := Lib.hid ha
  have HE0 := Lib.hid hE0
  have HFX := Lib.hid hfx
  have HCAP := Lib.hid hcapx
  have HNP := Lib.hid hnP
  have HND := Lib.hid hnD
  have HDR := Lib.hid hdr
  clear h hw0 hB0 ha hE0 hrun hfx hcapx hnP hnD hdr
  have o3 : w0.cell? ⟨x.o, 4, none⟩ = some (.slice Hl s.l.length cl) := one_block HRUN.out.self 4
  have d0 : ∀ d os, (grow (redrawn w0 d) os).cell? ⟨x.o, 4, none⟩ = some (.slice Hl s.l.length cl) := fun d os => cell_regrown o3 d os
  have d1 : ∀ d os, (grow (redrawn w0 d) os).cell? ⟨w.heap.size, 3, none⟩ = some (.int .i64 N) := fun d os => cell_regrown e3 d os
  have hG := fun d os => Calls.regrown_of ((at8_yes x.B Hl cl f N s.l (grow (redrawn w0 d) os) (HRUN.out.below (below_regrown w0 d os)).rowL hp).mono fun _ _ ⟨h1, h2⟩ => ⟨h1, h2 ▸ Below.refl _ _⟩)
  have HG := Lib.hid hG
  have HP := Lib.hid hp
  have HFN := Lib.hid hfn
  have HCF := Lib.hid hcf
  have HUR : Hid ((upR s.p (f : Int) = (1, s.p) ∧ s.p.cnt f = 0) ∨ (upR s.p (f : Int) = (0, s.p.up f) ∧ 0 < s.p.cnt f)) := Lib.hid (by
    unfold upR
    by_cases h0 : s.p.cnt f = 0
    · rw [if_neg (by rw [takenB_nat]; simp [h0])]; exact .inl ⟨rfl, h0⟩
    · rw [if_pos (by rw [takenB_nat]; exact decide_eq_true ⟨hfn, by omega⟩), Int.toNat_natCast]; exact .inr ⟨rfl, by omega⟩)
  clear hG hp hfn hcf
  go_enter Tryz.func16, Tryz.ntmps16
  go_upto_region 1 with (fail)
  rw [← HW0.out]
  go_upto_region 16 with (fail)
  refine wp_region_quiet_below (by kernel_rfl) (by kernel_rfl) ?_; (repeat (go_big_quiet_step ((exact HG.out _ _)))); refine wpQuiet_nil ?_; intro _ hw'; obtain ⟨⟨dq, osq⟩, hw''⟩ := hw'; subst hw''; have hbq := below_regrown (w0) dq osq; generalize grow (redrawn (w0) dq) osq = wq at hbq ⊢
  clear d0 d1 e0 e1 e2 e3 o3
  have HRQ := Lib.hid (HRUN.out.below hbq)
  have r0 : wq.cell? ⟨x.o, 0, none⟩ = some (.pointer (some ⟨x.a, 0, none⟩)) := one_block HRQ.out.self 0
  have HBQ := Lib.hid (show Below x.B w wq from (HB0.out.mono hBw).trans (hbq.mono (Nat.le_trans hBw HB0.out.size)))
  have HUP := Lib.hid (r2_pup f HRQ.out (by have := HCF.out; omega))
  clear hbq
  rcases HUR.out with ⟨hu, hc0⟩ | ⟨hu, hc0⟩
  · rw [hu] at HUP
    have HU := Lib.hid hu
    have HC0 := Lib.hid hc0
    clear hu hc0
    go_upto_region 20 with (first
      | (go_at_call 64; refine (HUP.out).mono ?_; rintro e w1 ⟨rfl, HR1, HBL1, HM1⟩)
      | fail)
    have r2 : w1.cell? ⟨x.o, 2, none⟩ = some (.pointer (some ⟨y.z.q, 0, none⟩)) := one_block HR1.out.self 2
    have HUD := Lib.hid (r2_dup f HR1.out HCAP.out)
    rw [HU.out] at HUD
    clear r0
    go_wp2_with (first
      | (go_at_call 65; refine (HUD.out).mono ?_; rintro e w2 ⟨rfl, HR2, HBL2, HM2⟩)
      | fail)
    go_ret
    exact ⟨rfl, s, S, y, D, Hl, cl, Hh, ch, HR2.out, .holdNot f rfl HP.out HC0.out, HA.out.ord, (HBQ.out.trans HBL1.out).trans HBL2.out⟩
  · rw [hu] at HUP
    have HU := Lib.hid hu
    have HC0 := Lib.hid hc0
    clear hu hc0
    go_upto_region 20 with (first
      | (go_at_call 64; refine (HUP.out).mono ?_; rintro e w1 ⟨rfl, HR1, HBL1, HM1⟩)
      | fail)
    have r2 : w1.cell? ⟨x.o, 2, none⟩ = some (.pointer (some ⟨y.z.q, 0, none⟩)) := one_block HR1.out.self 2
    have HUD := Lib.hid (r2_dup f HR1.out HCAP.out)
    rw [HU.out] at HUD
    clear r0
    go_upto_region 22 with (first
      | (go_at_call 65; refine (HUD.out).mono ?_; rintro e w2 ⟨rfl, HR2, HBL2, HM2⟩)
      | fail)
    have hox := (HR2.out.ltO _ (.inl rfl)).2
    have x4 : w2.cell? ⟨x.o, 5, none⟩ = some (.slice Hh s.h.length ch) := one_block HR2.out.self 5
    have xf := one_free HR2.out.self 5
    have HB56 := Lib.hid (show Below w2.heap.size w2 (w2.alloc (.cells #[.int .i64 (f : Int)] 3)) from (Below.refl _ _).alloc (Nat.le_refl _) _)
    have hB5 := HR2.out.base
    have hlenh : s.h.length < 1000000 := by omega
    clear r2
    go_wp2_with (first
      | (at_builtin; refine app_int rfl (.tmp 150) (.tmp 152) rfl x.B Hh ch s.h rfl (HR2.out.rowH.alloc _) f w2.heap.size 1 rfl (heap_alloc_new _ _) hlenh (by simp; omega) ?_; intro g6 cap6 w6 ho6 hg6 hat6 hlt6; obtain ⟨hm6, hn6⟩ := grown_mod HR2.out.rowH HB56.out hg6; have hO6 := (hm6.block x.o hox HR2.out.two.2.1).trans HR2.out.self; have p1 : w6.cell? ⟨x.o, 5, none⟩ = some (.slice Hh s.h.length ch) := one_block hO6 5; have p2 := one_free hO6 5; have HPU2 := Lib.hid (Run2.pushH (f := f) HR2.out HB56.out ho6 hg6 hat6); clear hO6 ho6 hg6 hat6 hm6 hn6)
      | fail)
    go_ret
    exact ⟨rfl, _, S, y, D, _, _, _, _, HPU2.out.1, .hold f rfl HP.out HC0.out, HA.out.ord, ((HBQ.out.trans HBL1.out).trans HBL2.out).trans HPU2.out.2⟩

end Go.Proofs.YtkkmcnngpahfaaaGreatDoor
