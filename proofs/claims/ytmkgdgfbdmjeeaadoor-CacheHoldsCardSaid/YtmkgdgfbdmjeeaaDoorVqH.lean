/- The cache's laws: does: take, and what does nothing. -/
import Derived.Test.YtmkgdgfbdmjeeaaDoorVqG
namespace Go.Proofs.YtmkgdgfbdmjeeaaDoor
open Go.RowKit Go.Sort
set_option linter.unusedSimpArgs false
set_option linter.unusedVariables false

set_option maxRecDepth 100000 in
set_option maxHeartbeats 4000000 in
theorem does8_take (B o a c fs m n k cl ch : Nat) (ino page N : Int) (w : World) (S : Nat → Prop) (F : List Nd) (s : St8) (ext : Nat → Nat) (Hl Hh : Option Addr) (h : Run8 w B o a c fs m S F s Hl cl Hh ch) (hf : s.Fine F ext n k) (hk : k ≤ 100000) :
    Calls Tryd.prog 48 #[.pointer (some ⟨o, 0, none⟩), .agg #[.int .i64 1, .int .i64 ino, .int .i64 page, .int .i64 N]] w (Does8Post w B o a c fs m S Hl Hh F ⟨1, ino, page, N⟩ s) := by
  obtain ⟨l1, l2, l3, l4⟩ := h.lts
  have hBw := h.base
  obtain ⟨w0, hw0⟩ : ∃ w0, w0 = w.alloc (.cells #[.int .i64 (1), .int .i64 ino, .int .i64 page, .int .i64 N] 97) := ⟨_, rfl⟩
  have hB0 : Below w.heap.size w w0 := (by rw [hw0]; exact (Below.refl _ _).alloc (Nat.le_refl _) _)
  have hE0 : w0.heap[w.heap.size]? = some (.cells #[.int .i64 (1), .int .i64 ino, .int .i64 page, .int .i64 N] 97 (0, 0)) := (by rw [hw0]; exact heap_alloc_new w _)
  have e0 : w0.cell? ⟨w.heap.size, 0, none⟩ = some (.int .i64 (1)) := one_block hE0 0
  have e1 : w0.cell? ⟨w.heap.size, 1, none⟩ = some (.int .i64 ino) := one_block hE0 1
  have e2 : w0.cell? ⟨w.heap.size, 2, none⟩ = some (.int .i64 page) := one_block hE0 2
  have e3 : w0.cell? ⟨w.heap.size, 3, none⟩ = some (.int .i64 N) := one_block hE0 3
  have o0 : w0.cell? ⟨o, 0, none⟩ = some (.pointer (some ⟨a, 0, none⟩)) := (hB0.cell (p := ⟨o, 0, none⟩) l1).trans (one_block h.self 0)
  have o2 : w0.cell? ⟨o, 2, none⟩ = some (.pointer (some ⟨c, 0, none⟩)) := (hB0.cell (p := ⟨o, 2, none⟩) l1).trans (one_block h.self 2)
  have o3 : w0.cell? ⟨o, 3, none⟩ = some (.slice Hl s.l.length cl) := (hB0.cell (p := ⟨o, 3, none⟩) l1).trans (one_block h.self 3)
  have o4 : w0.cell? ⟨o, 4, none⟩ = some (.slice Hh s.h.length ch) := (hB0.cell (p := ⟨o, 4, none⟩) l1).trans (one_block h.self 4)
  have hz0 := hB0.size
  have hdr : Below w.heap.size w w0.drew := hB0.drew
  have hzf := hf.few
  have HRUN := Lib.hid h
  have HW0 := Lib.hid hw0
  have HB0 := Lib.hid hB0
  have HF := Lib.hid hf
  clear h hw0 hB0 hf hE0
  have htake := ctake_any c a fs m s.clock w0 S s.p s.L (HRUN.out.cache.below HB0.out)
  have htake2 : Calls Tryd.prog 35 #[.pointer (some ⟨c, 0, none⟩)] w0 fun e w1 => ∃ r f p' L' S', e = .returned (.tuple #[.int .i64 (f : Nat), .int .i64 r]) ∧ Hid (Run8 w1 B o a c fs m S' F ⟨p', L', s.clock, s.l, s.h⟩ Hl cl Hh ch) ∧ Hid (Stay8 B (Foot8 S o c m Hl Hh) (Foot8 S' o c m Hl Hh) w w1) ∧ Hid (TakeRes s.p s.L r f p' L') := by
    refine htake.mono ?_
    rintro e w1 ⟨r, f, p', L', S', rfl, hC1, hm1', ho1', hres⟩
    have hm1 : Mod (fun b => S b ∨ b = m ∨ b = c) w0 w1 := hm1'.sub (fun b hb => hb.elim .inl fun e => .inr (.inl e))
    obtain ⟨hrun1, hbel1⟩ := HRUN.out.turn HB0.out hC1 hm1 ho1'
    exact ⟨r, f, p', L', S', rfl, Lib.hid hrun1, Lib.hid hbel1, Lib.hid hres⟩
  have HT := Lib.hid htake2
  clear htake htake2
  go_enter Tryd.func48, Tryd.ntmps48
  go_upto_region 1 with (fail)
  rw [← HW0.out]
  go_upto_region 8 with (first
    | (go_at_call 35; refine (HT.out).mono ?_; rintro e w1 ⟨r, f, p', L', S', rfl, HR1, HBL1, HRES⟩)
    | fail)
  clear e0 e1 e2 e3 o0 o2 o3 o4
  by_cases hr0 : r = 0
  rotate_left
  · have hne : (r == 0) = false := by rw [beq_eq_false_iff_ne]; exact hr0
    have HR0 := Lib.hid hr0
    clear hr0
    go_wp2_with fail
    refine bodyPost_ret (results_none rfl _ _ _) rfl ?_
    exact ⟨rfl, ⟨_, S', Hl, cl, Hh, ch, HR1.out, by have h9 := Do8.take (F := F) (o := ⟨1, ino, page, N⟩) (s := s) r f p' L' rfl HRES.out; rw [if_neg HR0.out, if_neg HR0.out] at h9; exact h9, HBL1.out⟩⟩
  · subst hr0
    obtain ⟨q1, q2, q3, q4⟩ := HR1.out.lts
    have v3 : w1.cell? ⟨o, 3, none⟩ = some (.slice Hl s.l.length cl) := one_block HR1.out.self 3
    have v4 := one_free HR1.out.self 3
    have HB13 := Lib.hid (show Below w1.heap.size w1 (w1.alloc (.cells #[.int .i64 (f : Int)] 3)) from (Below.refl _ _).alloc (Nat.le_refl _) _)
    have hBl := HR1.out.base
    have hlen : s.l.length < 1000000 := by omega
    have hlenh : s.h.length < 1000000 := by omega
    go_upto_region 10 with (first
      | (at_builtin; refine app_int rfl (.tmp 59) (.tmp 61) rfl B Hl cl s.l rfl (HR1.out.rowL.alloc _) f w1.heap.size 1 rfl (heap_alloc_new _ _) hlen (by simp; omega) ?_; intro g' cap' w4 ho4 hg4 hat4 hlt4; have hO4 := (HR1.out.farL HB13.out hg4).trans HR1.out.self; have p1 : w4.cell? ⟨o, 3, none⟩ = some (.slice Hl s.l.length cl) := one_block hO4 3; have p2 := one_free hO4 3; have HPU := Lib.hid (Run8.pushL (f := f) HR1.out HB13.out ho4 hg4 hat4 hlt4); clear hO4 ho4 hg4 hat4)
      | fail)
    obtain ⟨w5, hw5⟩ : ∃ w5, w5 = w4.setCell ⟨o, 3, none⟩ (.slice (some ⟨g', 0, none⟩) (s.l.length + 1) cap') := ⟨_, rfl⟩
    rw [← hw5]
    have HR5 : Hid (Run8 w5 B o a c fs m S' F ⟨p', L', s.clock, s.l ++ [f], s.h⟩ (some ⟨g', 0, none⟩) cap' Hh ch) := Lib.hid (by rw [hw5]; exact HPU.out.1)
    have HBL5 : Hid (Stay8 B (Foot8 S' o c m Hl Hh) (Foot8 S' o c m (some ⟨g', 0, none⟩) Hh) w1 w5) := Lib.hid (by rw [hw5]; exact HPU.out.2)
    have x4 : w5.cell? ⟨o, 4, none⟩ = some (.slice Hh s.h.length ch) := one_block HR5.out.self 4
    have xf := one_free HR5.out.self 4
    have HB56 := Lib.hid (show Below w5.heap.size w5 (w5.alloc (.cells #[.int .i64 (f : Int)] 3)) from (Below.refl _ _).alloc (Nat.le_refl _) _)
    have hB5 := HR5.out.base
    clear hw5 v3 v4 p1 p2
    go_wp2_with (first
      | (at_builtin; refine app_int rfl (.tmp 69) (.tmp 71) rfl B Hh ch s.h rfl (HR5.out.rowH.alloc _) f w5.heap.size 1 rfl (heap_alloc_new _ _) hlenh (by simp; omega) ?_; intro g6 cap6 w6 ho6 hg6 hat6 hlt6; have hO6 := (HR5.out.farH HB56.out hg6).trans HR5.out.self; have p1 : w6.cell? ⟨o, 4, none⟩ = some (.slice Hh s.h.length ch) := one_block hO6 4; have p2 := one_free hO6 4; have HPU2 := Lib.hid (Run8.pushH (f := f) HR5.out HB56.out ho6 hg6 hat6 hlt6); clear hO6 ho6 hg6 hat6)
      | fail)
    refine bodyPost_ret (results_none rfl _ _ _) rfl ?_
    exact ⟨rfl, ⟨_, S', _, _, _, _, HPU2.out.1, by have h9 := Do8.take (F := F) (o := ⟨1, ino, page, N⟩) (s := s) 0 f p' L' rfl HRES.out; rw [if_pos rfl, if_pos rfl] at h9; exact h9, HBL1.out.trans (HBL5.out.trans HPU2.out.2)⟩⟩

set_option maxRecDepth 100000 in
set_option maxHeartbeats 4000000 in
theorem does8_other (B o a c fs m n k cl ch : Nat) (K ino page N : Int) (w : World) (S : Nat → Prop) (F : List Nd) (s : St8) (ext : Nat → Nat) (Hl Hh : Option Addr) (h : Run8 w B o a c fs m S F s Hl cl Hh ch) (hf : s.Fine F ext n k) (hK : K < 0 ∨ 4 < K) :
    Calls Tryd.prog 48 #[.pointer (some ⟨o, 0, none⟩), .agg #[.int .i64 K, .int .i64 ino, .int .i64 page, .int .i64 N]] w (Does8Post w B o a c fs m S Hl Hh F ⟨K, ino, page, N⟩ s) := by
  obtain ⟨l1, l2, l3, l4⟩ := h.lts
  have hBw := h.base
  obtain ⟨w0, hw0⟩ : ∃ w0, w0 = w.alloc (.cells #[.int .i64 (K), .int .i64 ino, .int .i64 page, .int .i64 N] 97) := ⟨_, rfl⟩
  have hB0 : Below w.heap.size w w0 := (by rw [hw0]; exact (Below.refl _ _).alloc (Nat.le_refl _) _)
  have hE0 : w0.heap[w.heap.size]? = some (.cells #[.int .i64 (K), .int .i64 ino, .int .i64 page, .int .i64 N] 97 (0, 0)) := (by rw [hw0]; exact heap_alloc_new w _)
  have e0 : w0.cell? ⟨w.heap.size, 0, none⟩ = some (.int .i64 (K)) := one_block hE0 0
  have e1 : w0.cell? ⟨w.heap.size, 1, none⟩ = some (.int .i64 ino) := one_block hE0 1
  have e2 : w0.cell? ⟨w.heap.size, 2, none⟩ = some (.int .i64 page) := one_block hE0 2
  have e3 : w0.cell? ⟨w.heap.size, 3, none⟩ = some (.int .i64 N) := one_block hE0 3
  have o0 : w0.cell? ⟨o, 0, none⟩ = some (.pointer (some ⟨a, 0, none⟩)) := (hB0.cell (p := ⟨o, 0, none⟩) l1).trans (one_block h.self 0)
  have o2 : w0.cell? ⟨o, 2, none⟩ = some (.pointer (some ⟨c, 0, none⟩)) := (hB0.cell (p := ⟨o, 2, none⟩) l1).trans (one_block h.self 2)
  have o3 : w0.cell? ⟨o, 3, none⟩ = some (.slice Hl s.l.length cl) := (hB0.cell (p := ⟨o, 3, none⟩) l1).trans (one_block h.self 3)
  have o4 : w0.cell? ⟨o, 4, none⟩ = some (.slice Hh s.h.length ch) := (hB0.cell (p := ⟨o, 4, none⟩) l1).trans (one_block h.self 4)
  have hz0 := hB0.size
  have hdr : Below w.heap.size w w0.drew := hB0.drew
  have hzf := hf.few
  have HRUN := Lib.hid h
  have HW0 := Lib.hid hw0
  have HB0 := Lib.hid hB0
  have HF := Lib.hid hf
  clear h hw0 hB0 hf hE0
  have k0 : (K == 0) = false := by rw [beq_eq_false_iff_ne]; omega
  have k1 : (K == 1) = false := by rw [beq_eq_false_iff_ne]; omega
  have k2 : (K == 2) = false := by rw [beq_eq_false_iff_ne]; omega
  have k3 : (K == 3) = false := by rw [beq_eq_false_iff_ne]; omega
  have k4 : (K == 4) = false := by rw [beq_eq_false_iff_ne]; omega
  have HK := Lib.hid hK
  clear hK
  go_enter Tryd.func48, Tryd.ntmps48
  go_upto_region 1 with (fail)
  rw [← HW0.out]
  go_wp2_with fail
  refine bodyPost_ret (results_none rfl _ _ _) rfl ?_
  exact ⟨rfl, ⟨s, S, Hl, cl, Hh, ch, HRUN.out.below HB0.out, .other HK.out, Stay8.of HB0.out hBw⟩⟩

end Go.Proofs.YtmkgdgfbdmjeeaaDoor
