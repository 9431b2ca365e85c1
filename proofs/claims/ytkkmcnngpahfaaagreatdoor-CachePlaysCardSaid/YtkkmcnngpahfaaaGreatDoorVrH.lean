/- Both caches beside each other: does: get, take. -/
import Derived.Test.YtkkmcnngpahfaaaGreatDoorVrG
import Derived.StillTailTactics
namespace Go.Proofs.YtkkmcnngpahfaaaGreatDoor
open Go.RowKit Go.Sort
set_option linter.unusedSimpArgs false
set_option linter.unusedVariables false
variable {w : World} {x : Loc} {S : Nat → Prop} {y : DcW} {F : List Nd} {s : St8} {D : List Slot} {Hl Hh : Option Addr} {cl ch n k : Nat}

set_option maxRecDepth 100000 in
set_option maxHeartbeats 4000000 in
theorem does2_get (ino page N : Int) (h : Run2 w x S y F s s.p D Hl cl Hh ch) (ha : Alike8 F n k s s.p D) (hk : k ≤ 1000) (hF : F.length ≤ 1000) (hby : BytesF F) (hi : (Lit.int .i64 ino).wf = true) :
    Calls Tryz.prog 16 #[.pointer (some ⟨x.o, 0, none⟩), .agg #[.int .i64 0, .int .i64 ino, .int .i64 page, .int .i64 N]] w (Does2P w x F n k ⟨0, ino, page, N⟩ s) := by
  have hfew := ha.fine.few
  have hBw := h.base
  have l1 := (h.ltO _ (.inl rfl)).2
  obtain ⟨w0, hw0⟩ : ∃ w0, w0 = w.alloc (.cells #[.int .i64 (0), .int .i64 ino, .int .i64 page, .int .i64 N] 50) := ⟨_, rfl⟩
  have hB0 : Below w.heap.size w w0 := (by rw [hw0]; exact (Below.refl _ _).alloc (Nat.le_refl _) _)
  have hE0 : w0.heap[w.heap.size]? = some (.cells #[.int .i64 (0), .int .i64 ino, .int .i64 page, .int .i64 N] 50 (0, 0)) := (by rw [hw0]; exact heap_alloc_new w _)
  have e0 : w0.cell? ⟨w.heap.size, 0, none⟩ = some (.int .i64 (0)) := one_block hE0 0
  have e1 : w0.cell? ⟨w.heap.size, 1, none⟩ = some (.int .i64 ino) := one_block hE0 1
  have e2 : w0.cell? ⟨w.heap.size, 2, none⟩ = some (.int .i64 page) := one_block hE0 2
  have e3 : w0.cell? ⟨w.heap.size, 3, none⟩ = some (.int .i64 N) := one_block hE0 3
  have lE := (Array.getElem?_eq_some_iff.1 hE0).1
  have hrun := h.below hB0
  have hdr : Below w0.heap.size w0 w0.drew := (Below.refl _ _).drew
  have hfx := ha.facts hk
  have hcapx := h.cap
  have hnP : ¬ xP S x.c x.m w.heap.size := fun e => by have := (h.ltP _ e).2; omega
  have hnD : ¬ dcB y s.p.n w.heap.size := fun e => by have := (h.doc.lt _ e).2; omega
  have HRUN := Lib.hid hrun
  have HW0 := Lib.hid hw0
  have HB0 := Lib.hid hB0
  have HA := Lib.hid ha
  have HE0 := Lib.hid hE0
  have HFX := Lib.hid hfx
  have HCAP := Lib.hid hcapx
  have HNP := Lib.hid hnP
  have HND := Lib.hid hnD
  have HDR := Lib.hid hdr
  clear h hw0 hB0 ha hE0 hrun hfx hcapx hnP hnD hdr
  have HPG := Lib.hid (r2_pget ino page (HRUN.out.below HDR.out) hby hi ⟨by omega, by omega⟩)
  have o1 : w0.cell? ⟨x.o, 1, none⟩ = some (.pointer (some ⟨x.c, 0, none⟩)) := one_block HRUN.out.self 1
  go_enter Tryz.func16, Tryz.ntmps16
  go_upto_region 1 with (fail)
  rw [← HW0.out]
  go_upto_region 3 with (fail)
  go_region_with ((first
    | (go_at_call 35; refine (HPG.out).mono ?_; rintro e w1 ⟨r, f, p', L', clock', S', rfl, HR1, HBL1, HM1, HRES⟩)))
  all_goals
    obtain ⟨D', hD1, hO1⟩ := get_same HA.out.ord HA.out.fine.sole (fun t ht => by rw [HA.out.fine.size]; exact HA.out.fine.slow t ht) HRES.out
    have HDG := Lib.hid (r2_dgetE hD1 (HR1.out.below ((Below.refl w1.heap.size w1).drew)) hF HFX.out.1 HFX.out.2.1 HCAP.out)
    have hE1 := (HM1.out.block w.heap.size lE HNP.out).trans HE0.out
    have f1 : w1.cell? ⟨w.heap.size, 1, none⟩ = some (.int .i64 ino) := one_block hE1 1
    have f2 : w1.cell? ⟨w.heap.size, 2, none⟩ = some (.int .i64 page) := one_block hE1 2
    have o3 : w1.cell? ⟨x.o, 3, none⟩ = some (.pointer (some ⟨y.d, 0, none⟩)) := one_block HR1.out.self 3
    have HO1 := Lib.hid hO1
    clear e0 e1 e2 e3 o1 hD1 hE1 hO1
    go_upto_region 4 with (fail)
    go_region_with ((first
      | (go_at_call 45; refine (HDG.out).mono ?_; rintro e w2 ⟨y', rfl, HR2, HBL2, HM2⟩)))
    all_goals
      have HBL : Hid (Below x.B w w2) := Lib.hid ((((HB0.out.mono hBw).drew.trans HBL1.out).drew).trans HBL2.out)
      clear f1 f2 o3
      by_cases hr0 : r = 0
      rotate_left
      · have hne : (r == 0) = false := by rw [beq_eq_false_iff_ne]; exact hr0
        have HR0 := Lib.hid hr0
        clear hr0
        go_wp2_with fail
        go_ret
        exact ⟨rfl, _, S', y', D', Hl, cl, Hh, ch, HR2.out, by have h9 := Do8.get (o := ⟨0, ino, page, N⟩) (s := s) r f p' L' clock' rfl HRES.out; rw [if_neg HR0.out] at h9; exact h9, HO1.out, HBL.out⟩
      · subst hr0
        have hox := (HR2.out.ltO _ (.inl rfl)).2
        have v3 : w2.cell? ⟨x.o, 4, none⟩ = some (.slice Hl s.l.length cl) := one_block HR2.out.self 4
        have v4 := one_free HR2.out.self 4
        have HB13 := Lib.hid (show Below w2.heap.size w2 (w2.alloc (.cells #[.int .i64 (f : Int)] 3)) from (Below.refl _ _).alloc (Nat.le_refl _) _)
        have hBl := HR2.out.base
        have hlen : s.l.length < 1000000 := by omega
        go_wp2_with (first
          | (at_builtin; refine app_int rfl (.tmp 56) (.tmp 58) rfl x.B Hl cl s.l rfl (HR2.out.rowL.alloc _) f w2.heap.size 1 rfl (heap_alloc_new _ _) hlen (by simp; omega) ?_; intro g' cap' w4 ho4 hg4 hat4 hlt4; have hO4 := ((grown_mod HR2.out.rowL HB13.out hg4).1.block x.o hox HR2.out.two.1).trans HR2.out.self; have p1 : w4.cell? ⟨x.o, 4, none⟩ = some (.slice Hl s.l.length cl) := one_block hO4 4; have p2 := one_free hO4 4; have HPU := Lib.hid (Run2.pushL (f := f) HR2.out HB13.out ho4 hg4 hat4 hlt4); clear hO4 ho4 hg4 hat4)
          | fail)
        go_ret
        exact ⟨rfl, _, S', y', D', _, _, Hh, ch, HPU.out.1, by have h9 := Do8.get (o := ⟨0, ino, page, N⟩) (s := s) 0 f p' L' clock' rfl HRES.out; rw [if_pos rfl] at h9; exact h9, HO1.out, HBL.out.trans HPU.out.2⟩

end Go.Proofs.YtkkmcnngpahfaaaGreatDoor
