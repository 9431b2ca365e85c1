/- Both caches beside each other: does: give; does at anything. -/
import Derived.Test.YtkkmcnngpahfaaaGreatDoorVrJ
import Derived.Test.YtkkmcnngpahfaaaGreatDoorVrI
import Derived.Test.YtkkmcnngpahfaaaGreatDoorVrH
import Derived.Test.YtkkmcnngpahfaaaGreatDoorMgc
namespace Go.Proofs.YtkkmcnngpahfaaaGreatDoor
open Go.RowKit Go.Sort
set_option linter.unusedSimpArgs false
set_option linter.unusedVariables false
variable {w : World} {x : Loc} {S : Nat → Prop} {y : DcW} {F : List Nd} {s : St8} {D : List Slot} {Hl Hh : Option Addr} {cl ch n k : Nat}

set_option maxRecDepth 100000 in
set_option maxHeartbeats 4000000 in
theorem does2_giveNo (ino page N : Int) (h : Run2 w x S y F s s.p D Hl cl Hh ch) (ha : Alike8 F n k s s.p D) (hk : k ≤ 1000) (hp : pick s.h N = none) :
    Calls Tryz.prog 16 #[.pointer (some ⟨x.o, 0, none⟩), .agg #[.int .i64 3, .int .i64 ino, .int .i64 page, .int .i64 N]] w (Does2P w x F n k ⟨3, ino, page, N⟩ s) := by
  have hBw := h.base
  have l1 := (h.ltO _ (.inl rfl)).2
  obtain ⟨w0, hw0⟩ : ∃ w0, w0 = w.alloc (.cells #[.int .i64 (3), .int .i64 ino, .int .i64 page, .int .i64 N] 50) := ⟨_, rfl⟩
  have hB0 : Below w.heap.size w w0 := (by rw [hw0]; exact (Below.refl _ _).alloc (Nat.le_refl _) _)
  have hE0 : w0.heap[w.heap.size]? = some (.cells #[.int .i64 (3), .int .i64 ino, .int .i64 page, .int .i64 N] 50 (0, 0)) := (by rw [hw0]; exact heap_alloc_new w _)
  have e0 : w0.cell? ⟨w.heap.size, 0, none⟩ = some (.int .i64 (3)) := one_block hE0 0
  have e1 : w0.cell? ⟨w.heap.size, 1, none⟩ = some (.int .i64 ino) := one_block hE0 1
  have e2 : w0.cell? ⟨w.heap.size, 2, none⟩ = some (.int .i64 page) := one_block hE0 2
  have e3 : w0.cell? ⟨w.heap.size, 3, none⟩ = some (.int .i64 N) := one_block hE0 3
  have lE := (Array.getElem?_eq_some_iff.1 hE0).1
  have hrun := h.below hB0
  have hdr : Below w0.heap.size w0 w0.drew := (Below.refl _ _).drew
  have hfx := ha.facts hk
  have hcapx := h.cap
  have hnP : ¬ xP S x.c x.m w.heap.size := fun e => by have := (h.ltP _ e).2; omega
  have hnD : ¬ dcB y s.p.n w.heap.size := fun e => by have := (h.doc.lt _ e).2; omega
  have HRUN := Lib.hid hrun
  have HW0 := Lib.hid hw0
  have HB0 := Lib.hid hB0
  have HA := Lib.hid ha
  have HE0 := Lib.hid hE0
  have HFX := Lib.hid hfx
  have HCAP := Lib.hid hcapx
  have HNP := Lib.hid hnP
  have HND := Lib.hid hnD
  have HDR := Lib.hid hdr
  clear h hw0 hB0 ha hE0 hrun hfx hcapx hnP hnD hdr
  have o3 : w0.cell? ⟨x.o, 5, none⟩ = some (.slice Hh s.h.length ch) := one_block HRUN.out.self 5
  have d0 : ∀ d os, (grow (redrawn w0 d) os).cell? ⟨x.o, 5, none⟩ = some (.slice Hh s.h.length ch) := fun d os => cell_regrown o3 d os
  have d1 : ∀ d os, (grow (redrawn w0 d) os).cell? ⟨w.heap.size, 3, none⟩ = some (.int .i64 N) := fun d os => cell_regrown e3 d os
  have hG := fun d os => Calls.regrown_of ((at8_no Hh ch s.h N (grow (redrawn w0 d) os) hp).mono fun _ _ ⟨h1, h2⟩ => ⟨h1, h2 ▸ Below.refl _ _⟩)
  have HG := Lib.hid hG
  have HP := Lib.hid hp
  clear hG hp
  go_enter Tryz.func16, Tryz.ntmps16
  go_upto_region 1 with (fail)
  rw [← HW0.out]
  go_upto_region 25 with (fail)
  refine wp_region_quiet_below (by kernel_rfl) (by kernel_rfl) ?_; (repeat (go_big_quiet_step ((exact HG.out _ _)))); refine wpQuiet_nil ?_; intro _ hw'; obtain ⟨⟨dq, osq⟩, hw''⟩ := hw'; subst hw''; have hbq := below_regrown (w0) dq osq; generalize grow (redrawn (w0) dq) osq = wq at hbq ⊢
  clear d0 d1 e0 e1 e2 e3 o3
  go_wp2_with fail
  go_ret
  exact ⟨rfl, s, S, y, D, Hl, cl, Hh, ch, HRUN.out.below hbq, .giveNo rfl HP.out, HA.out.ord, (HB0.out.mono hBw).trans (hbq.mono (Nat.le_trans hBw HB0.out.size))⟩

set_option maxRecDepth 100000 in
set_option maxHeartbeats 4000000 in
theorem does2_give {f : Nat} (ino page N : Int) (h : Run2 w x S y F s s.p D Hl cl Hh ch) (ha : Alike8 F n k s s.p D) (hk : k ≤ 1000) (hp : pick s.h N = some f) :
    Calls Tryz.prog 16 #[.pointer (some ⟨x.o, 0, none⟩), .agg #[.int .i64 3, .int .i64 ino, .int .i64 page, .int .i64 N]] w (Does2P w x F n k ⟨3, ino, page, N⟩ s) := by
  obtain ⟨hN0, hh0, hpi⟩ := pick_some hp
  have hfn : f < s.p.n := by rw [ha.fine.size]; exact ha.fine.lowH f (List.mem_of_getElem? hpi)
  have hfc : 1 ≤ s.p.cnt f := by
    have h1 : s.p.cnt f = slotN s.L f + (cntL s.h f + 0) := ha.fine.even f hfn
    have h2 := cntL_pos hpi
    omega
  obtain ⟨i, hi⟩ : ∃ i, i = N.toNat % s.h.length := ⟨_, rfl⟩
  have hrem : N.tmod (s.h.length : Int) = (i : Int) := by
    obtain ⟨N', rfl⟩ := Int.eq_ofNat_of_zero_le hN0
    rw [hi]
    rfl
  rw [← hi] at hpi
  have hil : i < s.h.length := (List.getElem?_eq_some_iff.1 hpi).1
  have he : s.h.eraseIdx i = s.h.take i ++ s.h.drop (i + 1) := List.eraseIdx_eq_take_drop_succ _ _
  have hl1 : (s.h.take i).length = i := by rw [List.length_take]; omega
  have hl2 : (s.h.drop (i + 1)).length = s.h.length - (i + 1) := List.length_drop
  have hres : Do8 F ⟨3, ino, page, N⟩ s ⟨s.p.down f, s.L, s.clock, s.l, s.h.eraseIdx i⟩ := by
    rw [hi]
    exact Do8.give (o := ⟨3, ino, page, N⟩) (s := s) f rfl hp
  obtain ⟨g, hg0, hcap⟩ : ∃ g, Hh = some ⟨g, 0, none⟩ ∧ s.h.length ≤ ch := by
    rcases h.rowH.form with ⟨_, h2, _⟩ | ⟨g, h2, _, _, h3⟩
    · rw [h2] at hh0; cases hh0
    · exact ⟨g, h2, h3⟩
  have hfew := ha.fine.few
  have hwr : IntKind.i64.wrap ((i : Int) + 1) = (i : Int) + 1 := by rw [IntKind.wrap_i64]; omega
  have hr1 : (i : Int) ≤ (s.h.length : Int) := by omega
  have hr2 : (i : Int) + 1 ≤ (s.h.length : Int) := by omega
  have hr3 : ((s.h.length : Int) == 0) = false := by rw [beq_eq_false_iff_ne]; omega
  have hBw := h.base
  have l1 := (h.ltO _ (.inl rfl)).2
  obtain ⟨w0, hw0⟩ : ∃ w0, w0 = w.alloc (.cells #[.int .i64 (3), .int .i64 ino, .int .i64 page, .int .i64 N] 50) := ⟨_, rfl⟩
  have hB0 : Below w.heap.size w w0 := (by rw [hw0]; exact (Below.refl _ _).alloc (Nat.le_refl _) _)
  have hE0 : w0.heap[w.heap.size]? = some (.cells #[.int .i64 (3), .int .i64 ino, .int .i64 page, .int .i64 N] 50 (0, 0)) := (by rw [hw0]; exact heap_alloc_new w _)
  have e0 : w0.cell? ⟨w.heap.size, 0, none⟩ = some (.int .i64 (3)) := one_block hE0 0
  have e1 : w0.cell? ⟨w.heap.size, 1, none⟩ = some (.int .i64 ino) := one_block hE0 1
  have e2 : w0.cell? ⟨w.heap.size, 2, none⟩ = some (.int .i64 page) := one_block hE0 2
  have e3 : w0.cell? ⟨w.heap.size, 3, none⟩ = some (.int .i64 N) := one_block hE0 3
  have lE := (Array.getElem?_eq_some_iff.1 hE0).1
  have hrun := h.below hB0
  have hdr : Below w0.heap.size w0 w0.drew := (Below.refl _ _).drew
  have hfx := ha.facts hk
  have hcapx := h.cap
  have hnP : ¬ xP S x.c x.m w.heap.size := fun e => by have := (h.ltP _ e).2; omega
  have hnD : ¬ dcB y s.p.n w.heap.size := fun e => by have := (h.doc.lt _ e).2; omega
  have HRUN := Lib.hid hrun
  have HW0 := Lib.hid hw0
  have HB0 := Lib.hid hB0
  have HA := Lib.hid ha
  have HE0 := Lib.hid hE0
  have HFX := Lib.hid hfx
  have HCAP := Lib.hid hcapx
  have HNP := Lib.hid hnP
  have HND := Lib.hid hnD
  have HDR := Lib.hid hdr
  clear h hw0 hB0 ha hE0 hrun hfx hcapx hnP hnD hdr
  subst hg0
  have o4 : w0.cell? ⟨x.o, 5, none⟩ = some (.slice (some ⟨g, 0, none⟩) s.h.length ch) := one_block HRUN.out.self 5
  have d0 : ∀ d os, (grow (redrawn w0 d) os).cell? ⟨x.o, 5, none⟩ = some (.slice (some ⟨g, 0, none⟩) s.h.length ch) := fun d os => cell_regrown o4 d os
  have d1 : ∀ d os, (grow (redrawn w0 d) os).cell? ⟨w.heap.size, 3, none⟩ = some (.int .i64 N) := fun d os => cell_regrown e3 d os
  have hG := fun d os => Calls.regrown_of ((at8_yes x.B (some ⟨g, 0, none⟩) ch f N s.h (grow (redrawn w0 d) os) (HRUN.out.below (below_regrown w0 d os)).rowH hp).mono fun _ _ ⟨h1, h2⟩ => ⟨h1, h2 ▸ Below.refl _ _⟩)
  have HG := Lib.hid hG
  have HRES := Lib.hid hres
  have HFN := Lib.hid hfn
  have HFC := Lib.hid hfc
  have HL1 := Lib.hid hl1
  have HL2 := Lib.hid hl2
  have HE := Lib.hid he
  have hsh : s.h.length ≤ 100000 := by omega
  have HIL := Lib.hid hil
  have HHL := Lib.hid hsh
  have HDN : Hid (downR s.p (f : Int) = (0, s.p.down f)) := Lib.hid (by unfold downR; rw [if_pos (by rw [takenB_nat]; exact decide_eq_true ⟨hfn, hfc⟩), Int.toNat_natCast])
  clear hG hp hres hfn hfc hl1 hl2 he hi hpi hN0 hh0 hil hsh
  go_enter Tryz.func16, Tryz.ntmps16
  go_upto_region 1 with (fail)
  rw [← HW0.out]
  go_upto_region 25 with (fail)
  refine wp_region_quiet_below (by kernel_rfl) (by kernel_rfl) ?_; (repeat (go_big_quiet_step ((exact HG.out _ _)))); refine wpQuiet_nil ?_; intro _ hw'; obtain ⟨⟨dq, osq⟩, hw''⟩ := hw'; subst hw''; have hbq := below_regrown (w0) dq osq; generalize grow (redrawn (w0) dq) osq = wq at hbq ⊢
  clear d0 d1 e0 e1 e2
  have hzq := hbq.size
  have HRQ := Lib.hid (HRUN.out.below hbq)
  have hoq := (HRQ.out.ltO _ (.inl rfl)).2
  have q4 : wq.cell? ⟨x.o, 5, none⟩ = some (.slice (some ⟨g, 0, none⟩) s.h.length ch) := one_block HRQ.out.self 5
  have q3 : wq.cell? ⟨w.heap.size, 3, none⟩ = some (.int .i64 N) := (hbq.cell (p := ⟨w.heap.size, 3, none⟩) lE).trans e3
  have HBQ := Lib.hid (show Below x.B w wq from (HB0.out.mono hBw).trans (hbq.mono (Nat.le_trans hBw HB0.out.size)))
  clear o4 e3 hbq
  go_upto_region 28 with (fail)
  have d0 : ∀ d os, (grow (redrawn wq d) os).cell? ⟨x.o, 5, none⟩ = some (.slice (some ⟨g, 0, none⟩) s.h.length ch) := fun d os => cell_regrown q4 d os
  have d1 : ∀ d os, (grow (redrawn wq d) os).cell? ⟨w.heap.size, 3, none⟩ = some (.int .i64 N) := fun d os => cell_regrown q3 d os
  refine wp_region_quiet_below (by kernel_rfl) (by kernel_rfl) ?_; (repeat (go_big_quiet_step ((fail)))); refine wpQuiet_nil ?_; intro _ hw'; obtain ⟨⟨dq, osq⟩, hw''⟩ := hw'; subst hw''; have hbr := below_regrown (wq) dq osq; generalize grow (redrawn (wq) dq) osq = wr at hbr ⊢
  clear d0 d1
  have HRR := Lib.hid (HRQ.out.below hbr)
  have hor := (HRR.out.ltO _ (.inl rfl)).2
  have HBWR := Lib.hid (HBQ.out.trans (hbr.mono HRQ.out.base))
  clear q3 q4 hbr
  have r4 : wr.cell? ⟨x.o, 5, none⟩ = some (.slice (some ⟨g, 0, none⟩) s.h.length ch) := one_block HRR.out.self 5
  have hb0 : Below wr.heap.size wr (wr.alloc (.cells #[] 3)) := (Below.refl _ _).alloc (Nat.le_refl _) _
  have HB00 := Lib.hid hb0
  have HO0 := Lib.hid (OwnN.empty_made wr)
  have hgl := HRR.out.rowH.formS
  have hcl : ∀ W : World, Below wr.heap.size wr W → ∀ (j f : Nat), s.h[j]? = some f → W.cell? ⟨g, j, none⟩ = some (.int .i64 (f : Int)) := fun W hW j f hf => OwnN.elem (HRR.out.rowH.same (w' := W) fun b hb => by injection hb with hb; injection hb with hb; subst hb; exact hW.block _ hgl.2.1) hf
  have hc1 : ∀ (j f : Nat), (s.h.take i)[j]? = some f → (wr.alloc (.cells #[] 3)).cell? ((⟨g, 0, none⟩ : Addr).add j) = some (.int .i64 (f : Int)) := fun j f hf => by
    rw [Addr.add_mid, Nat.zero_add]
    refine hcl _ HB00.out j f ?_
    rw [List.getElem?_take] at hf
    split at hf
    · exact hf
    · cases hf
  have hc2 : ∀ W, Below wr.heap.size wr W → ∀ (j f : Nat), (s.h.drop (i + 1))[j]? = some f → W.cell? ((⟨g, i + 1, none⟩ : Addr).add j) = some (.int .i64 (f : Int)) := fun W hW j f hf => by
    rw [Addr.add_mid]
    refine hcl _ hW _ f ?_
    rw [List.getElem?_drop] at hf
    exact hf
  have HC1 := Lib.hid hc1
  have HC2 := Lib.hid hc2
  have hil := HIL.out
  have hhl := HHL.out
  clear hb0 hgl hcl hc1 hc2
  -- what stands behind both appends
  have hend : ∀ (g2 cap2 m : Nat) (w2 : World), m = s.h.length - (i + 1) → OwnN w2 wr.heap.size (some ⟨g2, 0, none⟩) cap2 (s.h.take i ++ s.h.drop (i + 1)) → Below wr.heap.size wr w2 →
      (Run2 (w2.setCell ⟨x.o, 5, none⟩ (.slice (some ⟨g2, 0, none⟩) (i + m) cap2)) x S y F ⟨s.p, s.L, s.clock, s.l, s.h.eraseIdx i⟩ s.p D Hl cl (some ⟨g2, 0, none⟩) cap2 ∧ Below x.B wr (w2.setCell ⟨x.o, 5, none⟩ (.slice (some ⟨g2, 0, none⟩) (i + m) cap2))) ∧ w2.cell? ⟨x.o, 5, none⟩ = some (.slice (some ⟨g, 0, none⟩) s.h.length ch) ∧ w2.frozen? ⟨x.o, 5, none⟩ = false := fun g2 cap2 m w2 hm ho2 hb2 => by
    have h9 := HRR.out.reH (Mod.of hb2) (ho2.lower HRR.out.base) (fun b hb => by injection hb with hb; injection hb with hb; subst hb; exact .inr ho2.formS.1)
    rw [List.length_append, HL1.out, HL2.out, ← HE.out, ← hm] at h9
    have hO2 := (hb2.block x.o hor).trans HRR.out.self
    exact ⟨h9, one_block hO2 5, one_free hO2 5⟩
  have HEND := Lib.hid hend
  clear hend hil hhl
  have hcc : (∃ m, i + 1 < ch ∧ m = s.h.length - (i + 1)) ∨ (ch ≤ i + 1 ∧ s.h.length - (i + 1) = 0) := by
    rcases Nat.lt_or_ge (i + 1) ch with h1 | h1
    · exact .inl ⟨_, h1, rfl⟩
    · exact .inr ⟨h1, by omega⟩
  rcases hcc with ⟨m, hcp, hm⟩ | ⟨hcp, hm⟩
  · have HM := Lib.hid hm
    clear hm
    go_upto_region 30 with (first
      | (at_builtin; refine app_intsX rfl (.tmp 181) (.tmp 187) rfl wr.heap.size wr.heap.size 0 0 i [] (s.h.take i) rfl HL1.out rfl HO0.out ⟨g, 0, none⟩ _ rfl HC1.out (by have := HIL.out; have := HHL.out; omega) (by simp) ?_; intro g1 cap1 w1 ho1 hb1'; have HB1 := Lib.hid (HB00.out.trans hb1'); have HO1 := Lib.hid ho1; clear ho1 hb1'; rw [Nat.zero_add])
      | fail)
    have p4 : w1.cell? ⟨x.o, 5, none⟩ = some (.slice (some ⟨g, 0, none⟩) s.h.length ch) := (HB1.out.cell (p := ⟨x.o, 5, none⟩) hor).trans r4
    have hz1 := HB1.out.size
    clear r4
    go_upto_region 31 with (first
      | (at_builtin; refine app_intsX rfl (.tmp 190) (.tmp 197) rfl wr.heap.size g1 cap1 i (s.h.length - (i + 1)) (s.h.take i) (s.h.drop (i + 1)) HL1.out HL2.out rfl HO1.out ⟨g, i + 1, none⟩ _ rfl (HC2.out _ HB1.out) (by have := HIL.out; have := HHL.out; omega) hz1 ?_; intro g2 cap2 w2 ho2 hb2'; obtain ⟨hpu, p1, p2⟩ := HEND.out g2 cap2 _ w2 rfl ho2 (HB1.out.trans hb2'); have HPU := Lib.hid hpu; clear ho2 hb2' hpu)
      | fail)
    obtain ⟨w3, hw3⟩ : ∃ w3, w3 = w2.setCell ⟨x.o, 5, none⟩ (.slice (some ⟨g2, 0, none⟩) (i + (s.h.length - (i + 1))) cap2) := ⟨_, rfl⟩
    rw [← hw3] at HPU ⊢
    clear hw3 p1 p2
    have x0 : w3.cell? ⟨x.o, 0, none⟩ = some (.pointer (some ⟨x.a, 0, none⟩)) := one_block HPU.out.1.self 0
    have HD := Lib.hid (r2_pdown f HPU.out.1)
    rw [show (St8.mk s.p s.L s.clock s.l (s.h.eraseIdx i)).p = s.p from rfl, HDN.out] at HD
    go_upto_region 32 with (first
      | (go_at_call 38; refine (HD.out).mono ?_; rintro e w4 ⟨rfl, HR4, HBL4, HM4⟩)
      | fail)
    have x2 : w4.cell? ⟨x.o, 2, none⟩ = some (.pointer (some ⟨y.z.q, 0, none⟩)) := one_block HR4.out.self 2
    have HDD := Lib.hid (r2_ddown f HR4.out HCAP.out)
    rw [HDN.out] at HDD
    clear x0
    go_wp2_with (first
      | (go_at_call 46; refine (HDD.out).mono ?_; rintro e w5 ⟨rfl, HR5, HBL5, HM5⟩)
      | fail)
    go_ret
    exact ⟨rfl, _, S, y, D, _, _, _, _, HR5.out, HRES.out, HA.out.ord, ((HBWR.out.trans HPU.out.2).trans HBL4.out).trans HBL5.out⟩
  · obtain rfl : ch = i + 1 := by have := HIL.out; omega
    have HM := Lib.hid hm
    clear hm hcp
    go_upto_region 30 with (first
      | (at_builtin; refine app_intsX rfl (.tmp 181) (.tmp 187) rfl wr.heap.size wr.heap.size 0 0 i [] (s.h.take i) rfl HL1.out rfl HO0.out ⟨g, 0, none⟩ _ rfl HC1.out (by have := HIL.out; have := HHL.out; omega) (by simp) ?_; intro g1 cap1 w1 ho1 hb1'; have HB1 := Lib.hid (HB00.out.trans hb1'); have HO1 := Lib.hid ho1; clear ho1 hb1'; rw [Nat.zero_add])
      | fail)
    have p4 : w1.cell? ⟨x.o, 5, none⟩ = some (.slice (some ⟨g, 0, none⟩) s.h.length (i + 1)) := (HB1.out.cell (p := ⟨x.o, 5, none⟩) hor).trans r4
    have hz1 := HB1.out.size
    clear r4
    go_upto_region 31 with (first
      | (at_builtin; refine app_intsX rfl (.tmp 190) (.tmp 197) rfl wr.heap.size g1 cap1 i 0 (s.h.take i) (s.h.drop (i + 1)) HL1.out (HL2.out.trans HM.out) rfl HO1.out _ _ rfl (fun j f hf => by have h0 := List.eq_nil_of_length_eq_zero (HL2.out.trans HM.out); rw [h0] at hf; cases hf) (by have := HIL.out; have := HHL.out; omega) hz1 ?_; intro g2 cap2 w2 ho2 hb2'; obtain ⟨hpu, p1, p2⟩ := HEND.out g2 cap2 0 w2 HM.out.symm ho2 (HB1.out.trans hb2'); rw [Nat.add_zero] at hpu; rw [Nat.add_zero]; have HPU := Lib.hid hpu; clear ho2 hb2' hpu)
      | fail)
    obtain ⟨w3, hw3⟩ : ∃ w3, w3 = w2.setCell ⟨x.o, 5, none⟩ (.slice (some ⟨g2, 0, none⟩) i cap2) := ⟨_, rfl⟩
    rw [← hw3] at HPU ⊢
    clear hw3 p1 p2
    have x0 : w3.cell? ⟨x.o, 0, none⟩ = some (.pointer (some ⟨x.a, 0, none⟩)) := one_block HPU.out.1.self 0
    have HD := Lib.hid (r2_pdown f HPU.out.1)
    rw [show (St8.mk s.p s.L s.clock s.l (s.h.eraseIdx i)).p = s.p from rfl, HDN.out] at HD
    go_upto_region 32 with (first
      | (go_at_call 38; refine (HD.out).mono ?_; rintro e w4 ⟨rfl, HR4, HBL4, HM4⟩)
      | fail)
    have x2 : w4.cell? ⟨x.o, 2, none⟩ = some (.pointer (some ⟨y.z.q, 0, none⟩)) := one_block HR4.out.self 2
    have HDD := Lib.hid (r2_ddown f HR4.out HCAP.out)
    rw [HDN.out] at HDD
    clear x0
    go_wp2_with (first
      | (go_at_call 46; refine (HDD.out).mono ?_; rintro e w5 ⟨rfl, HR5, HBL5, HM5⟩)
      | fail)
    go_ret
    exact ⟨rfl, _, S, y, D, _, _, _, _, HR5.out, HRES.out, HA.out.ord, ((HBWR.out.trans HPU.out.2).trans HBL4.out).trans HBL5.out⟩
theorem does2_any (op : Op8) (h : Run2 w x S y F s s.p D Hl cl Hh ch) (ha : Alike8 F n k s s.p D) (hk : k ≤ 1000) (hF : F.length ≤ 1000) (hby : BytesF F) (hop : op.Ok) :
    Calls Tryz.prog 16 #[.pointer (some ⟨x.o, 0, none⟩), op.val] w (Does2P w x F n k op s) := by
  obtain ⟨K, ino, page, N⟩ := op
  have hc : K = 0 ∨ K = 1 ∨ K = 2 ∨ K = 3 ∨ K = 4 ∨ (K < 0 ∨ 4 < K) := by omega
  rcases hc with rfl | rfl | rfl | rfl | rfl | hK
  · exact does2_get ino page N h ha hk hF hby hop.ino
  · exact does2_take ino page N h ha hk
  · cases hp : pick s.l N with
    | none => exact does2_holdNo ino page N h ha hk hp
    | some f => exact does2_hold ino page N h ha hk hp
  · cases hp : pick s.h N with
    | none => exact does2_giveNo ino page N h ha hk hp
    | some f => exact does2_give ino page N h ha hk hp
  · exact does2_drop ino page N h ha hk
  · exact does2_other K ino page N h ha hk hK

end Go.Proofs.YtkkmcnngpahfaaaGreatDoor
