/- Both caches beside each other: does: take, drop, what does nothing. -/
import Derived.Test.YtkkmcnngpahfaaaGreatDoorVrG
namespace Go.Proofs.YtkkmcnngpahfaaaGreatDoor
open Go.RowKit Go.Sort
set_option linter.unusedSimpArgs false
set_option linter.unusedVariables false
variable {w : World} {x : Loc} {S : Nat → Prop} {y : DcW} {F : List Nd} {s : St8} {D : List Slot} {Hl Hh : Option Addr} {cl ch n k : Nat}

set_option maxRecDepth 100000 in
set_option maxHeartbeats 4000000 in
theorem does2_take (ino page N : Int) (h : Run2 w x S y F s s.p D Hl cl Hh ch) (ha : Alike8 F n k s s.p D) (hk : k ≤ 1000) :
    Calls Tryz.prog 16 #[.pointer (some ⟨x.o, 0, none⟩), .agg #[.int .i64 1, .int .i64 ino, .int .i64 page, .int .i64 N]] w (Does2P w x F n k ⟨1, ino, page, N⟩ s) := by
  have hfew := ha.fine.few
  have hBw := h.base
  have l1 := (h.ltO _ (.inl rfl)).2
  obtain ⟨w0, hw0⟩ : ∃ w0, w0 = w.alloc (.cells #[.int .i64 (1), .int .i64 ino, .int .i64 page, .int .i64 N] 50) := ⟨_, rfl⟩
  have hB0 : Below w.heap.size w w0 := (by rw [hw0]; exact (Below.refl _ _).alloc (Nat.le_refl _) _)
  have hE0 : w0.heap[w.heap.size]? = some (.cells #[.int .i64 (1), .int .i64 ino, .int .i64 page, .int .i64 N] 50 (0, 0)) := (by rw [hw0]; exact heap_alloc_new w _)
  have e0 : w0.cell? ⟨w.heap.size, 0, none⟩ = some (.int .i64 (1)) := one_block hE0 0
  have e1 : w0.cell? ⟨w.heap.size, 1, none⟩ = some (.int .i64 ino) := one_block hE0 1
  have e2 : w0.cell? ⟨w.heap.size, 2, none⟩ = some (.int .i64 page) := one_block hE0 2
  have e3 : w0.cell? ⟨w.heap.size, 3, none⟩ = some (.int .i64 N) := one_block hE0 3
  have lE := (Array.getElem?_eq_some_iff.1 hE0).1
  have hrun := h.below hB0
  have hdr : Below w0.heap.size w0 w0.drew := (Below.refl _ _).drew
  have hfx := ha.facts hk
  have hcapx := h.cap
  have hnP : ¬ xP S x.c x.m w.heap.size := fun e => by have := (h.ltP _ e).2; omega
  have hnD : ¬ dcB y s.p.n w.heap.size := fun e => by have := (h.doc.lt _ e).2; omega
  have HRUN := Lib.hid hrun
  have HW0 := Lib.hid hw0
  have HB0 := Lib.hid hB0
  have HA := Lib.hid ha
  have HE0 := Lib.hid hE0
  have HFX := Lib.hid hfx
  have HCAP := Lib.hid hcapx
  have HNP := Lib.hid hnP
  have HND := Lib.hid hnD
  have HDR := Lib.hid hdr
  clear h hw0 hB0 ha hE0 hrun hfx hcapx hnP hnD hdr
  have HPT := Lib.hid (r2_ptake HRUN.out)
  have o1 : w0.cell? ⟨x.o, 1, none⟩ = some (.pointer (some ⟨x.c, 0, none⟩)) := one_block HRUN.out.self 1
  go_enter Tryz.func16, Tryz.ntmps16
  go_upto_region 1 with (fail)
  rw [← HW0.out]
  go_upto_region 10 with (first
    | (go_at_call 34; refine (HPT.out).mono ?_; rintro e w1 ⟨r, f, p', L', S', rfl, HR1, HBL1, HM1, HRES⟩)
    | fail)
  obtain ⟨D', hD1, hO1⟩ := take_same HA.out.ord HA.out.fine.sole (fun t ht => by rw [HA.out.fine.size]; exact HA.out.fine.slow t ht) HRES.out
  have HDT := Lib.hid (r2_dtakeE hD1 HR1.out HFX.out.1 HFX.out.2.1 HCAP.out)
  have o3 : w1.cell? ⟨x.o, 3, none⟩ = some (.pointer (some ⟨y.d, 0, none⟩)) := one_block HR1.out.self 3
  have HO1 := Lib.hid hO1
  clear e0 e1 e2 e3 o1 hD1 hO1
  go_upto_region 11 with (first
    | (go_at_call 44; refine (HDT.out).mono ?_; rintro e w2 ⟨y', rfl, HR2, HBL2, HM2⟩)
    | fail)
  have HBL : Hid (Below x.B w w2) := Lib.hid (((HB0.out.mono hBw).trans HBL1.out).trans HBL2.out)
  clear o3
  by_cases hr0 : r = 0
  rotate_left
  · have hne : (r == 0) = false := by rw [beq_eq_false_iff_ne]; exact hr0
    have HR0 := Lib.hid hr0
    clear hr0
    go_wp2_with fail
    go_ret
    exact ⟨rfl, _, S', y', D', Hl, cl, Hh, ch, HR2.out, by have h9 := Do8.take (F := F) (o := ⟨1, ino, page, N⟩) (s := s) r f p' L' rfl HRES.out; rw [if_neg HR0.out, if_neg HR0.out] at h9; exact h9, HO1.out, HBL.out⟩
  · subst hr0
    have hox := (HR2.out.ltO _ (.inl rfl)).2
    have v3 : w2.cell? ⟨x.o, 4, none⟩ = some (.slice Hl s.l.length cl) := one_block HR2.out.self 4
    have v4 := one_free HR2.out.self 4
    have HB13 := Lib.hid (show Below w2.heap.size w2 (w2.alloc (.cells #[.int .i64 (f : Int)] 3)) from (Below.refl _ _).alloc (Nat.le_refl _) _)
    have hBl := HR2.out.base
    have hlen : s.l.length < 1000000 := by omega
    have hlenh : s.h.length < 1000000 := by omega
    go_upto_region 13 with (first
      | (at_builtin; refine app_int rfl (.tmp 94) (.tmp 96) rfl x.B Hl cl s.l rfl (HR2.out.rowL.alloc _) f w2.heap.size 1 rfl (heap_alloc_new _ _) hlen (by simp; omega) ?_; intro g' cap' w4 ho4 hg4 hat4 hlt4; have hO4 := ((grown_mod HR2.out.rowL HB13.out hg4).1.block x.o hox HR2.out.two.1).trans HR2.out.self; have p1 : w4.cell? ⟨x.o, 4, none⟩ = some (.slice Hl s.l.length cl) := one_block hO4 4; have p2 := one_free hO4 4; have HPU := Lib.hid (Run2.pushL (f := f) HR2.out HB13.out ho4 hg4 hat4 hlt4); clear hO4 ho4 hg4 hat4)
      | fail)
    obtain ⟨w5, hw5⟩ : ∃ w5, w5 = w4.setCell ⟨x.o, 4, none⟩ (.slice (some ⟨g', 0, none⟩) (s.l.length + 1) cap') := ⟨_, rfl⟩
    rw [← hw5]
    have HR5 : Hid (Run2 w5 x S' y' F ⟨p', L', s.clock, s.l ++ [f], s.h⟩ p' D' (some ⟨g', 0, none⟩) cap' Hh ch) := Lib.hid (by rw [hw5]; exact HPU.out.1)
    have HBL5 : Hid (Below x.B w2 w5) := Lib.hid (by rw [hw5]; exact HPU.out.2)
    have hox5 := (HR5.out.ltO _ (.inl rfl)).2
    have x4 : w5.cell? ⟨x.o, 5, none⟩ = some (.slice Hh s.h.length ch) := one_block HR5.out.self 5
    have xf := one_free HR5.out.self 5
    have HB56 := Lib.hid (show Below w5.heap.size w5 (w5.alloc (.cells #[.int .i64 (f : Int)] 3)) from (Below.refl _ _).alloc (Nat.le_refl _) _)
    have hB5 := HR5.out.base
    clear hw5 v3 v4 p1 p2
    go_wp2_with (first
      | (at_builtin; refine app_int rfl (.tmp 104) (.tmp 106) rfl x.B Hh ch s.h rfl (HR5.out.rowH.alloc _) f w5.heap.size 1 rfl (heap_alloc_new _ _) hlenh (by simp; omega) ?_; intro g6 cap6 w6 ho6 hg6 hat6 hlt6; obtain ⟨hm6, hn6⟩ := grown_mod HR5.out.rowH HB56.out hg6; have hO6 := (hm6.block x.o hox5 HR5.out.two.2.1).trans HR5.out.self; have p1 : w6.cell? ⟨x.o, 5, none⟩ = some (.slice Hh s.h.length ch) := one_block hO6 5; have p2 := one_free hO6 5; have HPU2 := Lib.hid (Run2.pushH (f := f) HR5.out HB56.out ho6 hg6 hat6); clear hO6 ho6 hg6 hat6 hm6 hn6)
      | fail)
    go_ret
    exact ⟨rfl, _, S', y', D', _, _, _, _, HPU2.out.1, by have h9 := Do8.take (F := F) (o := ⟨1, ino, page, N⟩) (s := s) 0 f p' L' rfl HRES.out; rw [if_pos rfl, if_pos rfl] at h9; exact h9, HO1.out, HBL.out.trans (HBL5.out.trans HPU2.out.2)⟩

set_option maxRecDepth 100000 in
set_option maxHeartbeats 4000000 in
theorem does2_drop (ino page N : Int) (h : Run2 w x S y F s s.p D Hl cl Hh ch) (ha : Alike8 F n k s s.p D) (hk : k ≤ 1000) :
    Calls Tryz.prog 16 #[.pointer (some ⟨x.o, 0, none⟩), .agg #[.int .i64 4, .int .i64 ino, .int .i64 page, .int .i64 N]] w (Does2P w x F n k ⟨4, ino, page, N⟩ s) := by
  have hBw := h.base
  have l1 := (h.ltO _ (.inl rfl)).2
  obtain ⟨w0, hw0⟩ : ∃ w0, w0 = w.alloc (.cells #[.int .i64 (4), .int .i64 ino, .int .i64 page, .int .i64 N] 50) := ⟨_, rfl⟩
  have hB0 : Below w.heap.size w w0 := (by rw [hw0]; exact (Below.refl _ _).alloc (Nat.le_refl _) _)
  have hE0 : w0.heap[w.heap.size]? = some (.cells #[.int .i64 (4), .int .i64 ino, .int .i64 page, .int .i64 N] 50 (0, 0)) := (by rw [hw0]; exact heap_alloc_new w _)
  have e0 : w0.cell? ⟨w.heap.size, 0, none⟩ = some (.int .i64 (4)) := one_block hE0 0
  have e1 : w0.cell? ⟨w.heap.size, 1, none⟩ = some (.int .i64 ino) := one_block hE0 1
  have e2 : w0.cell? ⟨w.heap.size, 2, none⟩ = some (.int .i64 page) := one_block hE0 2
  have e3 : w0.cell? ⟨w.heap.size, 3, none⟩ = some (.int .i64 N) := one_block hE0 3
  have lE := (Array.getElem?_eq_some_iff.1 hE0).1
  have hrun := h.below hB0
  have hdr : Below w0.heap.size w0 w0.drew := (Below.refl _ _).drew
  have hfx := ha.facts hk
  have hcapx := h.cap
  have hnP : ¬ xP S x.c x.m w.heap.size := fun e => by have := (h.ltP _ e).2; omega
  have hnD : ¬ dcB y s.p.n w.heap.size := fun e => by have := (h.doc.lt _ e).2; omega
  have HRUN := Lib.hid hrun
  have HW0 := Lib.hid hw0
  have HB0 := Lib.hid hB0
  have HA := Lib.hid ha
  have HE0 := Lib.hid hE0
  have HFX := Lib.hid hfx
  have HCAP := Lib.hid hcapx
  have HNP := Lib.hid hnP
  have HND := Lib.hid hnD
  have HDR := Lib.hid hdr
  clear h hw0 hB0 ha hE0 hrun hfx hcapx hnP hnD hdr
  have hcnt : ∀ t ∈ s.L, t.frame < s.p.n ∧ slotN s.L t.frame ≤ s.p.cnt t.frame := fun t ht => by
    have h1 := HA.out.fine.slow t ht
    have h2 : s.p.cnt t.frame = slotN s.L t.frame + (cntL s.h t.frame + 0) := HA.out.fine.even t.frame (by rw [HA.out.fine.size]; exact h1)
    exact ⟨by rw [HA.out.fine.size]; exact h1, by omega⟩
  have hsn : ∀ f, slotN D f = slotN s.L f := fun f => HA.out.ord.perm.countP_eq _
  have hcntD : ∀ t ∈ D, t.frame < s.p.n ∧ slotN D t.frame ≤ s.p.cnt t.frame := fun t ht => by
    rw [hsn]; exact hcnt t (HA.out.ord.perm.mem_iff.1 ht)
  have hdt : dropTo s.p D [] = dropTo s.p s.L [] := by
    unfold dropTo
    congr 1
    funext f
    rw [hsn]
  have HPD := Lib.hid (r2_pdrop HRUN.out hcnt)
  have HCD := Lib.hid hcntD
  have HDT := Lib.hid hdt
  have o1 : w0.cell? ⟨x.o, 1, none⟩ = some (.pointer (some ⟨x.c, 0, none⟩)) := one_block HRUN.out.self 1
  clear hcnt hsn hcntD hdt
  go_enter Tryz.func16, Tryz.ntmps16
  go_upto_region 1 with (fail)
  rw [← HW0.out]
  go_upto_region 35 with (first
    | (go_at_call 66; refine (HPD.out).mono ?_; rintro e w1 ⟨rfl, HR1, HBL1, HM1⟩)
    | fail)
  have HDD := Lib.hid (r2_ddrop HR1.out (HA.out.ord.sole HA.out.fine.sole) HCD.out HFX.out.2.1 HCAP.out)
  have o3 : w1.cell? ⟨x.o, 3, none⟩ = some (.pointer (some ⟨y.d, 0, none⟩)) := one_block HR1.out.self 3
  clear e0 e1 e2 e3 o1
  go_wp2_with (first
    | (go_at_call 67; refine (HDD.out).mono ?_; rintro e w2 ⟨y', rfl, HR2, HBL2, HM2⟩)
    | fail)
  go_ret
  exact ⟨rfl, _, S, y', [], Hl, cl, Hh, ch, by have h9 := HR2.out; rw [HDT.out] at h9; exact h9, .drop rfl, ⟨List.Perm.refl _, List.Pairwise.nil, fun t ht => by cases ht⟩, ((HB0.out.mono hBw).trans HBL1.out).trans HBL2.out⟩

set_option maxRecDepth 100000 in
set_option maxHeartbeats 4000000 in
theorem does2_other (K ino page N : Int) (h : Run2 w x S y F s s.p D Hl cl Hh ch) (ha : Alike8 F n k s s.p D) (hk : k ≤ 1000) (hK : K < 0 ∨ 4 < K) :
    Calls Tryz.prog 16 #[.pointer (some ⟨x.o, 0, none⟩), .agg #[.int .i64 K, .int .i64 ino, .int .i64 page, .int .i64 N]] w (Does2P w x F n k ⟨K, ino, page, N⟩ s) := by
  have hBw := h.base
  have l1 := (h.ltO _ (.inl rfl)).2
  obtain ⟨w0, hw0⟩ : ∃ w0, w0 = w.alloc (.cells #[.int .i64 (K), .int .i64 ino, .int .i64 page, .int .i64 N] 50) := ⟨_, rfl⟩
  have hB0 : Below w.heap.size w w0 := (by rw [hw0]; exact (Below.refl _ _).alloc (Nat.le_refl _) _)
  have hE0 : w0.heap[w.heap.size]? = some (.cells #[.int .i64 (K), .int .i64 ino, .int .i64 page, .int .i64 N] 50 (0, 0)) := (by rw [hw0]; exact heap_alloc_new w _)
  have e0 : w0.cell? ⟨w.heap.size, 0, none⟩ = some (.int .i64 (K)) := one_block hE0 0
  have e1 : w0.cell? ⟨w.heap.size, 1, none⟩ = some (.int .i64 ino) := one_block hE0 1
  have e2 : w0.cell? ⟨w.heap.size, 2, none⟩ = some (.int .i64 page) := one_block hE0 2
  have e3 : w0.cell? ⟨w.heap.size, 3, none⟩ = some (.int .i64 N) := one_block hE0 3
  have lE := (Array.getElem?_eq_some_iff.1 hE0).1
  have hrun := h.below hB0
  have hdr : Below w0.heap.size w0 w0.drew := (Below.refl _ _).drew
  have hfx := ha.facts hk
  have hcapx := h.cap
  have hnP : ¬ xP S x.c x.m w.heap.size := fun e => by have := (h.ltP _ e).2; omega
  have hnD : ¬ dcB y s.p.n w.heap.size := fun e => by have := (h.doc.lt _ e).2; omega
  have HRUN := Lib.hid hrun
  have HW0 := Lib.hid hw0
  have HB0 := Lib.hid hB0
  have HA := Lib.hid ha
  have HE0 := Lib.hid hE0
  have HFX := Lib.hid hfx
  have HCAP := Lib.hid hcapx
  have HNP := Lib.hid hnP
  have HND := Lib.hid hnD
  have HDR := Lib.hid hdr
  clear h hw0 hB0 ha hE0 hrun hfx hcapx hnP hnD hdr
  have k0 : (K == 0) = false := by rw [beq_eq_false_iff_ne]; omega
  have k1 : (K == 1) = false := by rw [beq_eq_false_iff_ne]; omega
  have k2 : (K == 2) = false := by rw [beq_eq_false_iff_ne]; omega
  have k3 : (K == 3) = false := by rw [beq_eq_false_iff_ne]; omega
  have k4 : (K == 4) = false := by rw [beq_eq_false_iff_ne]; omega
  have HK := Lib.hid hK
  clear hK
  go_enter Tryz.func16, Tryz.ntmps16
  go_upto_region 1 with (fail)
  rw [← HW0.out]
  go_wp2_with fail
  go_ret
  exact ⟨rfl, s, S, y, D, Hl, cl, Hh, ch, HRUN.out, .other HK.out, HA.out.ord, HB0.out.mono hBw⟩

end Go.Proofs.YtkkmcnngpahfaaaGreatDoor
