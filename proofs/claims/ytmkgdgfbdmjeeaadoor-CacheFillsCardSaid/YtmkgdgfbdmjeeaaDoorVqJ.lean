/- The cache's laws: does: hold, drop. -/
import Derived.Test.YtmkgdgfbdmjeeaaDoorVqI
import Derived.Deep.RegionLaw
import Derived.Deep.AppendLies
import Derived.Deep.QuietTactic
import Derived.BigQuiet
import Derived.Lib.QuietBelow
namespace Go.Proofs.YtmkgdgfbdmjeeaaDoor
open Go.RowKit Go.Sort
set_option linter.unusedSimpArgs false
set_option linter.unusedVariables false

theorem slotN_le (L : List Slot) (f : Nat) : slotN L f ≤ L.length := by
  unfold slotN
  exact List.countP_le_length
theorem cntL_le (l : List Nat) (f : Nat) : cntL l f ≤ l.length := by
  unfold cntL
  exact List.count_le_length

set_option maxRecDepth 100000 in
set_option maxHeartbeats 4000000 in
theorem does8_drop (B o a c fs m n k cl ch : Nat) (ino page N : Int) (w : World) (S : Nat → Prop) (F : List Nd) (s : St8) (ext : Nat → Nat) (Hl Hh : Option Addr) (h : Run8 w B o a c fs m S F s Hl cl Hh ch) (hf : s.Fine F ext n k) :
    Calls Tryd.prog 48 #[.pointer (some ⟨o, 0, none⟩), .agg #[.int .i64 4, .int .i64 ino, .int .i64 page, .int .i64 N]] w (Does8Post w B o a c fs m S Hl Hh F ⟨4, ino, page, N⟩ s) := by
  obtain ⟨l1, l2, l3, l4⟩ := h.lts
  have hBw := h.base
  obtain ⟨w0, hw0⟩ : ∃ w0, w0 = w.alloc (.cells #[.int .i64 (4), .int .i64 ino, .int .i64 page, .int .i64 N] 97) := ⟨_, rfl⟩
  have hB0 : Below w.heap.size w w0 := (by rw [hw0]; exact (Below.refl _ _).alloc (Nat.le_refl _) _)
  have hE0 : w0.heap[w.heap.size]? = some (.cells #[.int .i64 (4), .int .i64 ino, .int .i64 page, .int .i64 N] 97 (0, 0)) := (by rw [hw0]; exact heap_alloc_new w _)
  have e0 : w0.cell? ⟨w.heap.size, 0, none⟩ = some (.int .i64 (4)) := one_block hE0 0
  have e1 : w0.cell? ⟨w.heap.size, 1, none⟩ = some (.int .i64 ino) := one_block hE0 1
  have e2 : w0.cell? ⟨w.heap.size, 2, none⟩ = some (.int .i64 page) := one_block hE0 2
  have e3 : w0.cell? ⟨w.heap.size, 3, none⟩ = some (.int .i64 N) := one_block hE0 3
  have o0 : w0.cell? ⟨o, 0, none⟩ = some (.pointer (some ⟨a, 0, none⟩)) := (hB0.cell (p := ⟨o, 0, none⟩) l1).trans (one_block h.self 0)
  have o2 : w0.cell? ⟨o, 2, none⟩ = some (.pointer (some ⟨c, 0, none⟩)) := (hB0.cell (p := ⟨o, 2, none⟩) l1).trans (one_block h.self 2)
  have o3 : w0.cell? ⟨o, 3, none⟩ = some (.slice Hl s.l.length cl) := (hB0.cell (p := ⟨o, 3, none⟩) l1).trans (one_block h.self 3)
  have o4 : w0.cell? ⟨o, 4, none⟩ = some (.slice Hh s.h.length ch) := (hB0.cell (p := ⟨o, 4, none⟩) l1).trans (one_block h.self 4)
  have hz0 := hB0.size
  have hdr : Below w.heap.size w w0.drew := hB0.drew
  have hzf := hf.few
  have HRUN := Lib.hid h
  have HW0 := Lib.hid hw0
  have HB0 := Lib.hid hB0
  have HF := Lib.hid hf
  clear h hw0 hB0 hf hE0
  have hcnt : ∀ x ∈ s.L, x.frame < s.p.n ∧ slotN s.L x.frame ≤ s.p.cnt x.frame := fun x hx => by
    have h1 := HF.out.slow x hx
    have h2 : s.p.cnt x.frame = slotN s.L x.frame + (cntL s.h x.frame + ext x.frame) := HF.out.even x.frame (by rw [HF.out.size]; exact h1)
    exact ⟨by rw [HF.out.size]; exact h1, by omega⟩
  have hdrop := drop_any c a fs m s.clock w0 S s.p s.L (HRUN.out.cache.below HB0.out) hcnt
  have hdrop2 : Calls Tryd.prog 28 #[.pointer (some ⟨c, 0, none⟩)] w0 fun e w1 => e = .returned (.tuple #[]) ∧ Hid (Run8 w1 B o a c fs m S F ⟨dropTo s.p s.L [], [], s.clock, s.l, s.h⟩ Hl cl Hh ch) ∧ Hid (Stay8 B (Foot8 S o c m Hl Hh) (Foot8 S o c m Hl Hh) w w1) := by
    refine hdrop.mono ?_
    rintro e w1 ⟨rfl, hC1, hm1'⟩
    have hm1 : Mod (fun b => S b ∨ b = m ∨ b = c) w0 w1 := hm1'.sub (fun b hb => hb.elim .inl fun e => .inr (.inl e))
    obtain ⟨hrun1, hbel1⟩ := HRUN.out.turn HB0.out hC1 hm1 (Out.refl _ _)
    exact ⟨rfl, Lib.hid hrun1, Lib.hid hbel1⟩
  have HD := Lib.hid hdrop2
  clear hdrop hdrop2 hcnt
  go_enter Tryd.func48, Tryd.ntmps48
  go_upto_region 1 with (fail)
  rw [← HW0.out]
  go_wp2_with (first
    | (go_at_call 28; refine (HD.out).mono ?_; rintro e w1 ⟨rfl, HR1, HBL1⟩)
    | fail)
  refine bodyPost_ret (results_none rfl _ _ _) rfl ?_
  exact ⟨rfl, ⟨_, S, Hl, cl, Hh, ch, HR1.out, .drop rfl, HBL1.out⟩⟩

set_option maxRecDepth 100000 in
set_option maxHeartbeats 4000000 in
theorem does8_holdNo (B o a c fs m n k cl ch : Nat) (ino page N : Int) (w : World) (S : Nat → Prop) (F : List Nd) (s : St8) (ext : Nat → Nat) (Hl Hh : Option Addr) (h : Run8 w B o a c fs m S F s Hl cl Hh ch) (hf : s.Fine F ext n k) (hp : pick s.l N = none) :
    Calls Tryd.prog 48 #[.pointer (some ⟨o, 0, none⟩), .agg #[.int .i64 2, .int .i64 ino, .int .i64 page, .int .i64 N]] w (Does8Post w B o a c fs m S Hl Hh F ⟨2, ino, page, N⟩ s) := by
  obtain ⟨l1, l2, l3, l4⟩ := h.lts
  have hBw := h.base
  obtain ⟨w0, hw0⟩ : ∃ w0, w0 = w.alloc (.cells #[.int .i64 (2), .int .i64 ino, .int .i64 page, .int .i64 N] 97) := ⟨_, rfl⟩
  have hB0 : Below w.heap.size w w0 := (by rw [hw0]; exact (Below.refl _ _).alloc (Nat.le_refl _) _)
  have hE0 : w0.heap[w.heap.size]? = some (.cells #[.int .i64 (2), .int .i64 ino, .int .i64 page, .int .i64 N] 97 (0, 0)) := (by rw [hw0]; exact heap_alloc_new w _)
  have e0 : w0.cell? ⟨w.heap.size, 0, none⟩ = some (.int .i64 (2)) := one_block hE0 0
  have e1 : w0.cell? ⟨w.heap.size, 1, none⟩ = some (.int .i64 ino) := one_block hE0 1
  have e2 : w0.cell? ⟨w.heap.size, 2, none⟩ = some (.int .i64 page) := one_block hE0 2
  have e3 : w0.cell? ⟨w.heap.size, 3, none⟩ = some (.int .i64 N) := one_block hE0 3
  have o0 : w0.cell? ⟨o, 0, none⟩ = some (.pointer (some ⟨a, 0, none⟩)) := (hB0.cell (p := ⟨o, 0, none⟩) l1).trans (one_block h.self 0)
  have o2 : w0.cell? ⟨o, 2, none⟩ = some (.pointer (some ⟨c, 0, none⟩)) := (hB0.cell (p := ⟨o, 2, none⟩) l1).trans (one_block h.self 2)
  have o3 : w0.cell? ⟨o, 3, none⟩ = some (.slice Hl s.l.length cl) := (hB0.cell (p := ⟨o, 3, none⟩) l1).trans (one_block h.self 3)
  have o4 : w0.cell? ⟨o, 4, none⟩ = some (.slice Hh s.h.length ch) := (hB0.cell (p := ⟨o, 4, none⟩) l1).trans (one_block h.self 4)
  have hz0 := hB0.size
  have hdr : Below w.heap.size w w0.drew := hB0.drew
  have hzf := hf.few
  have HRUN := Lib.hid h
  have HW0 := Lib.hid hw0
  have HB0 := Lib.hid hB0
  have HF := Lib.hid hf
  clear h hw0 hB0 hf hE0
  have d0 : ∀ d os, (grow (redrawn w0 d) os).cell? ⟨o, 3, none⟩ = some (.slice Hl s.l.length cl) := fun d os => cell_regrown o3 d os
  have d1 : ∀ d os, (grow (redrawn w0 d) os).cell? ⟨w.heap.size, 3, none⟩ = some (.int .i64 N) := fun d os => cell_regrown e3 d os
  have hG := fun d os => Calls.regrown_of ((at8_no Hl cl s.l N (grow (redrawn w0 d) os) hp).mono fun _ _ ⟨h1, h2⟩ => ⟨h1, h2 ▸ Below.refl _ _⟩)
  have HG := Lib.hid hG
  have HP := Lib.hid hp
  clear hG hp
  go_enter Tryd.func48, Tryd.ntmps48
  go_upto_region 1 with (fail)
  rw [← HW0.out]
  go_upto_region 12 with (fail)
  refine wp_region_quiet_below (by kernel_rfl) (by kernel_rfl) ?_; (repeat (go_big_quiet_step ((exact HG.out _ _)))); refine wpQuiet_nil ?_; intro _ hw'; obtain ⟨⟨dq, osq⟩, hw''⟩ := hw'; subst hw''; have hbq := below_regrown (w0) dq osq; generalize grow (redrawn (w0) dq) osq = wq at hbq ⊢
  clear d0 d1 e0 e1 e2 e3 o0 o2 o3 o4
  go_wp2_with fail
  refine bodyPost_ret (results_none rfl _ _ _) rfl ?_
  exact ⟨rfl, ⟨s, S, Hl, cl, Hh, ch, (HRUN.out.below HB0.out).below hbq, .holdNo rfl HP.out, (Stay8.of HB0.out hBw).trans (Stay8.of hbq (by omega))⟩⟩

set_option maxRecDepth 100000 in
set_option maxHeartbeats 4000000 in
theorem does8_hold (B o a c fs m n k cl ch f : Nat) (ino page N : Int) (w : World) (S : Nat → Prop) (F : List Nd) (s : St8) (ext : Nat → Nat) (Hl Hh : Option Addr) (h : Run8 w B o a c fs m S F s Hl cl Hh ch) (hf : s.Fine F ext n k) (hk : k ≤ 100000) (hp : pick s.l N = some f) (hext : ∀ g, ext g ≤ 100000) :
    Calls Tryd.prog 48 #[.pointer (some ⟨o, 0, none⟩), .agg #[.int .i64 2, .int .i64 ino, .int .i64 page, .int .i64 N]] w (Does8Post w B o a c fs m S Hl Hh F ⟨2, ino, page, N⟩ s) := by
  have hfn : f < s.p.n := by rw [hf.size]; exact hf.lowL f (List.mem_of_getElem? (pick_some hp).2.2)
  have hcap : s.p.cnt f + 1 < 1000000000000 := by
    have h2 : s.p.cnt f = slotN s.L f + (cntL s.h f + ext f) := hf.even f hfn
    have h3 := slotN_le s.L f
    have h4 := cntL_le s.h f
    have h5 := hext f
    have := hf.few
    omega
  obtain ⟨l1, l2, l3, l4⟩ := h.lts
  have hBw := h.base
  obtain ⟨w0, hw0⟩ : ∃ w0, w0 = w.alloc (.cells #[.int .i64 (2), .int .i64 ino, .int .i64 page, .int .i64 N] 97) := ⟨_, rfl⟩
  have hB0 : Below w.heap.size w w0 := (by rw [hw0]; exact (Below.refl _ _).alloc (Nat.le_refl _) _)
  have hE0 : w0.heap[w.heap.size]? = some (.cells #[.int .i64 (2), .int .i64 ino, .int .i64 page, .int .i64 N] 97 (0, 0)) := (by rw [hw0]; exact heap_alloc_new w _)
  have e0 : w0.cell? ⟨w.heap.size, 0, none⟩ = some (.int .i64 (2)) := one_block hE0 0
  have e1 : w0.cell? ⟨w.heap.size, 1, none⟩ = some (.int .i64 ino) := one_block hE0 1
  have e2 : w0.cell? ⟨w.heap.size, 2, none⟩ = some (.int .i64 page) := one_block hE0 2
  have e3 : w0.cell? ⟨w.heap.size, 3, none⟩ = some (.int .i64 N) := one_block hE0 3
  have o0 : w0.cell? ⟨o, 0, none⟩ = some (.pointer (some ⟨a, 0, none⟩)) := (hB0.cell (p := ⟨o, 0, none⟩) l1).trans (one_block h.self 0)
  have o2 : w0.cell? ⟨o, 2, none⟩ = some (.pointer (some ⟨c, 0, none⟩)) := (hB0.cell (p := ⟨o, 2, none⟩) l1).trans (one_block h.self 2)
  have o3 : w0.cell? ⟨o, 3, none⟩ = some (.slice Hl s.l.length cl) := (hB0.cell (p := ⟨o, 3, none⟩) l1).trans (one_block h.self 3)
  have o4 : w0.cell? ⟨o, 4, none⟩ = some (.slice Hh s.h.length ch) := (hB0.cell (p := ⟨o, 4, none⟩) l1).trans (one_block h.self 4)
  have hz0 := hB0.size
  have hdr : Below w.heap.size w w0.drew := hB0.drew
  have hzf := hf.few
  have HRUN := Lib.hid h
  have HW0 := Lib.hid hw0
  have HB0 := Lib.hid hB0
  have HF := Lib.hid hf
  clear h hw0 hB0 hf hE0
  have hrun0 := HRUN.out.below HB0.out
  have d0 : ∀ d os, (grow (redrawn w0 d) os).cell? ⟨o, 3, none⟩ = some (.slice Hl s.l.length cl) := fun d os => cell_regrown o3 d os
  have d1 : ∀ d os, (grow (redrawn w0 d) os).cell? ⟨w.heap.size, 3, none⟩ = some (.int .i64 N) := fun d os => cell_regrown e3 d os
  have hG := fun d os => Calls.regrown_of ((at8_yes B Hl cl f N s.l (grow (redrawn w0 d) os) (hrun0.below (below_regrown w0 d os)).rowL hp).mono fun _ _ ⟨h1, h2⟩ => ⟨h1, h2 ▸ Below.refl _ _⟩)
  have HG := Lib.hid hG
  have HP := Lib.hid hp
  have HRUN0 := Lib.hid hrun0
  have HFN := Lib.hid hfn
  have HCAP := Lib.hid hcap
  clear hG hp hrun0 hfn hcap
  go_enter Tryd.func48, Tryd.ntmps48
  go_upto_region 1 with (fail)
  rw [← HW0.out]
  go_upto_region 12 with (fail)
  refine wp_region_quiet_below (by kernel_rfl) (by kernel_rfl) ?_; (repeat (go_big_quiet_step ((exact HG.out _ _)))); refine wpQuiet_nil ?_; intro _ hw'; obtain ⟨⟨dq, osq⟩, hw''⟩ := hw'; subst hw''; have hbq := below_regrown (w0) dq osq; generalize grow (redrawn (w0) dq) osq = wq at hbq ⊢
  clear d0 d1 e0 e1 e2 e3 o0 o2 o3 o4
  have hrunq := HRUN0.out.below hbq
  have HRQ := Lib.hid hrunq
  have r0 : wq.cell? ⟨o, 0, none⟩ = some (.pointer (some ⟨a, 0, none⟩)) := one_block hrunq.self 0
  have HBWQ := Lib.hid (show Stay8 B (Foot8 S o c m Hl Hh) (Foot8 S o c m Hl Hh) w wq from (Stay8.of HB0.out hBw).trans (Stay8.of hbq (by omega)))
  clear hrunq
  by_cases hc0 : s.p.cnt f = 0
  · have htk : takenB s.p (f : Int) = false := by rw [takenB_nat]; exact decide_eq_false (by omega)
    have HUP := Lib.hid (up_no a (f : Int) wq S s.p HRQ.out.cache.pool htk)
    have HC0 := Lib.hid hc0
    clear hc0 htk
    go_wp2_with (first
      | (go_at_call 46; refine (HUP.out).mono ?_; rintro e w1 ⟨rfl, rfl⟩)
      | fail)
    refine bodyPost_ret (results_none rfl _ _ _) rfl ?_
    exact ⟨rfl, ⟨s, S, Hl, cl, Hh, ch, HRQ.out, .holdNot f rfl HP.out HC0.out, HBWQ.out⟩⟩
  · have htk : takenB s.p (f : Int) = true := by rw [takenB_nat]; exact decide_eq_true ⟨HFN.out, by omega⟩
    have hup := up_yes a f wq S s.p HRQ.out.cache.pool htk HCAP.out
    have hup2 : Calls Tryd.prog 46 #[.pointer (some ⟨a, 0, none⟩), .int .i64 (f : Nat)] wq fun e w1 => e = .returned (.int .i64 0) ∧ Hid (Run8 w1 B o a c fs m S F ⟨s.p.up f, s.L, s.clock, s.l, s.h⟩ Hl cl Hh ch) ∧ Hid (Stay8 B (Foot8 S o c m Hl Hh) (Foot8 S o c m Hl Hh) wq w1) := by
      refine hup.mono ?_
      rintro e w1 ⟨rfl, hP1, hm1⟩
      obtain ⟨hrun1, hbel1⟩ := HRQ.out.turn (Below.refl _ _) (HRQ.out.cache.turn hm1 hP1 (Out.refl _ _)) (hm1.sub fun b hb => .inl hb) (Out.refl _ _)
      exact ⟨rfl, Lib.hid hrun1, Lib.hid hbel1⟩
    have HUP := Lib.hid hup2
    have HC0 := Lib.hid (show 0 < s.p.cnt f by omega)
    clear hc0 htk hup hup2
    go_upto_region 15 with (first
      | (go_at_call 46; refine (HUP.out).mono ?_; rintro e w1 ⟨rfl, HR1, HBL1⟩)
      | fail)
    have x4 : w1.cell? ⟨o, 4, none⟩ = some (.slice Hh s.h.length ch) := one_block HR1.out.self 4
    have xf := one_free HR1.out.self 4
    have HB56 := Lib.hid (show Below w1.heap.size w1 (w1.alloc (.cells #[.int .i64 (f : Int)] 3)) from (Below.refl _ _).alloc (Nat.le_refl _) _)
    have hB5 := HR1.out.base
    have hlenh : s.h.length < 1000000 := by omega
    clear r0
    go_wp2_with (first
      | (at_builtin; refine app_int rfl (.tmp 101) (.tmp 103) rfl B Hh ch s.h rfl (HR1.out.rowH.alloc _) f w1.heap.size 1 rfl (heap_alloc_new _ _) hlenh (by simp; omega) ?_; intro g6 cap6 w6 ho6 hg6 hat6 hlt6; have hO6 := (HR1.out.farH HB56.out hg6).trans HR1.out.self; have p1 : w6.cell? ⟨o, 4, none⟩ = some (.slice Hh s.h.length ch) := one_block hO6 4; have p2 := one_free hO6 4; have HPU2 := Lib.hid (Run8.pushH (f := f) HR1.out HB56.out ho6 hg6 hat6 hlt6); clear hO6 ho6 hg6 hat6)
      | fail)
    refine bodyPost_ret (results_none rfl _ _ _) rfl ?_
    exact ⟨rfl, ⟨_, S, _, _, _, _, HPU2.out.1, .hold f rfl HP.out HC0.out, HBWQ.out.trans (HBL1.out.trans HPU2.out.2)⟩⟩

end Go.Proofs.YtmkgdgfbdmjeeaaDoor
