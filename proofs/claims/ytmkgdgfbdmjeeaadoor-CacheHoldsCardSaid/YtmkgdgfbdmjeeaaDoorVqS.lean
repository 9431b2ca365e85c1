/- CacheFills, its walk. -/
import Derived.Test.YtmkgdgfbdmjeeaaDoorVqP
import Derived.Lib.QuietBelow
namespace Go.Proofs.YtmkgdgfbdmjeeaaDoor
open Go.RowKit Go.Sort
set_option linter.unusedSimpArgs false
set_option linter.unusedVariables false

theorem OwnB.same8 {w w' : World} {base cap n : Nat} {A : Option Addr} {d : Nat → Nat} (h : OwnB w base A cap n d) (hb : ∀ g, A = some ⟨g, 0, none⟩ → w'.heap[g]? = w.heap[g]?) : OwnB w' base A cap n d := by
  refine ⟨h.1, ?_⟩
  rcases h.2 with h2 | ⟨g, cap', cur, h1, h2, h3, h4⟩
  · exact .inl h2
  · right
    refine ⟨g, cap', cur, h1, h2, ?_, h4⟩
    injection h1 with e1
    rw [hb g e1]
    exact h3
theorem OwnB.form8 {w : World} {base cap n : Nat} {A : Option Addr} {d : Nat → Nat} (h : OwnB w base A cap n d) : (A = none ∧ n = 0 ∧ cap = 0) ∨ ∃ g, A = some ⟨g, 0, none⟩ ∧ base ≤ g ∧ g < w.heap.size ∧ n ≤ cap := by
  rcases h.2 with ⟨h1, h2⟩ | ⟨g, cap', cur, h1, h2, h3, h4, _⟩
  · injection h1 with e1 e2 e3
    exact .inl ⟨e1, h2, e3⟩
  · injection h1 with e1 e2 e3
    exact .inr ⟨g, e1, h2, (Array.getElem?_eq_some_iff.1 h3).1, by omega⟩
theorem OwnB.alloc8 {w : World} {base cap n : Nat} {A : Option Addr} {d : Nat → Nat} (h : OwnB w base A cap n d) (o : Obj) : OwnB (w.alloc o) base A cap n d := h.same8 fun g hg => by
  rcases h.form8 with ⟨e, _⟩ | ⟨g', e, _, hl, _⟩
  · rw [e] at hg; cases hg
  · rw [e] at hg; injection hg with hg; injection hg with hg; subst hg
    exact Below.heap_alloc _ _ _ hl

set_option maxHeartbeats 1000000 in
theorem same8_yes (g1 g2 c1 c2 n : Nat) (d : Nat → Nat) (w : World) (l1 : g1 < w.heap.size) (l2 : g2 < w.heap.size) (h1 : ∀ j, j < n → w.cell? ⟨g1, j, none⟩ = some (.int .u8 (d j : Int))) (h2 : ∀ j, j < n → w.cell? ⟨g2, j, none⟩ = some (.int .u8 (d j : Int))) (n1 : n ≤ c1) (n2 : n ≤ c2) (hfew : n ≤ 10000000) :
    Calls Tryd.prog 49 #[.slice (some ⟨g1, 0, none⟩) n c1, .slice (some ⟨g2, 0, none⟩) n c2] w fun e w' => e = .returned (.bool true) ∧ Below w.heap.size w w' := by
  have H1 := Lib.hid h1
  have H2 := Lib.hid h2
  clear h1 h2
  go_enter Tryd.func49, Tryd.ntmps49
  go_wp2_with fail
  go_loopw [5] (fun i wr => ∃ k : Nat, i = .int .i64 (k : Int) ∧ k ≤ n ∧ Below w.heap.size w wr) (fun i _ => n - (intOf i).toNat)
  case atStart => exact ⟨0, rfl, Nat.zero_le _, Below.refl _ _⟩
  case round =>
    obtain ⟨k, rfl, hk, hb⟩ := hrel
    have HB := Lib.hid hb
    clear hb
    by_cases hlt : k < n
    · obtain ⟨x, hx⟩ : ∃ x, x = d k := ⟨_, rfl⟩
      have d1 : ∀ dd os, (grow (redrawn wr dd) os).cell? ⟨g1, k, none⟩ = some (.int .u8 (x : Int)) := fun dd os => cell_regrown ((HB.out.cell (p := ⟨g1, k, none⟩) l1).trans (by rw [hx]; exact H1.out k hlt)) dd os
      have d2 : ∀ dd os, (grow (redrawn wr dd) os).cell? ⟨g2, k, none⟩ = some (.int .u8 (x : Int)) := fun dd os => cell_regrown ((HB.out.cell (p := ⟨g2, k, none⟩) l2).trans (by rw [hx]; exact H2.out k hlt)) dd os
      have hkl : (k : Int) < (n : Int) := by omega
      clear hx
      go_upto_region 6 with (fail)
      refine wp_region_quiet_below (by kernel_rfl) (by kernel_rfl) ?_; (repeat (go_big_quiet_step ((fail)))); refine wpQuiet_nil ?_; intro _ hw'; obtain ⟨⟨dq, osq⟩, hw''⟩ := hw'; subst hw''; have hbq := below_regrown (wr) dq osq; generalize grow (redrawn (wr) dq) osq = wq at hbq ⊢
      go_wp2_with fail
      go_roundw
      case rel => exact ⟨k + 1, by go_num, by omega, HB.out.trans (hbq.mono HB.out.size)⟩
      case measure => (simp [intOf]; omega)
    · obtain rfl : k = n := by omega
      go_wp2_with fail
      go_ret
      exact ⟨rfl, HB.out⟩

theorem Run8.foot_lt {w : World} {B o a c fs m : Nat} {S : Nat → Prop} {F : List Nd} {s : St8} {Hl Hh : Option Addr} {cl ch : Nat} (h : Run8 w B o a c fs m S F s Hl cl Hh ch) {b : Nat} (hb : Foot8 S o c m Hl Hh b) : b < w.heap.size := by
  obtain ⟨l1, l2, l3, l4⟩ := h.lts
  rcases hb with e | e | e | e | e | e
  · exact l4 b e
  · omega
  · omega
  · omega
  · exact (row8_lt h.rowL b e).2
  · exact (row8_lt h.rowH b e).2
theorem St8.Fine.got {F : List Nd} {s : St8} {ext : Nat → Nat} {n k : Nat} {ino page r clock' : Int} {f : Nat} {p' : Pool} {L' : List Slot} (h : s.Fine F ext n k) (hg : GetF F ino page s.p s.L s.clock r f p' L' clock') : St8.Fine ⟨p', L', clock', s.l, s.h⟩ F ext n (k + 1) := by
  have h9 := h.step (Do8.get (o := ⟨0, ino, page, 0⟩) (s := s) r f p' L' clock' rfl hg)
  have h8 := h9.few
  have h7 := h.few
  exact ⟨h9.even, h9.sole, h9.filled, h9.size, ⟨h8.1, by show s.l.length ≤ _; omega, h8.2.2.1, h8.2.2.2.1, h8.2.2.2.2⟩, h.lowL, h9.lowH, h9.slow, h9.keys⟩
/-- A page that can be read is a file's. -/
theorem readR_file {F : List Nd} {ino : Int} {off : Nat} (h : (readR F ino off).1 = 0) : ∃ i y, ino = ((i : Nat) : Int) ∧ F[i]? = some y ∧ y.kind = 1 := by
  unfold readR at h
  split at h
  · cases h
  · next hi =>
    split at h
    · cases h
    · next y hy =>
      split at h
      · cases h
      · split at h
        · next hk => exact ⟨ino.toNat, y, by omega, hy, hk⟩
        · cases h
theorem pageD_in {F : List Nd} {ino page : Int} {j : Nat} (h : j < (pageR F ino page).2.1) : pageD F ino page j = (pageR F ino page).2.2 j := by
  unfold pageD laid
  rw [if_pos ⟨Nat.zero_le _, by omega⟩, Nat.sub_zero]
theorem pageD_out {F : List Nd} {ino page : Int} {j : Nat} (h : (pageR F ino page).2.1 ≤ j) : pageD F ino page j = 0 := by
  unfold pageD laid
  rw [if_neg (by omega)]

set_option maxRecDepth 100000 in
set_option maxHeartbeats 4000000 in
theorem fills8_any (P A : Option Addr) (n cap k cap2 : Nat) (N ino page : Int) (w : World) (hF : ArgF8 w P n cap) (hO : ArgO8 w A k cap2) (hwi : (Lit.int .i64 ino).wf = true) (hdb : DB w) (hw0 : 0 < w.heap.size) :
    Calls Tryd.prog 11 #[.agg #[.slice P n cap, .int .i64 N], .slice A k cap2, .int .i64 ino, .int .i64 page] w (LawPost8 w) := by
  obtain ⟨w0, hw0'⟩ : ∃ w0, w0 = w.alloc (.cells #[.slice P n cap, .int .i64 N] 85) := ⟨_, rfl⟩
  have hb0 : Below w.heap.size w w0 := (by rw [hw0']; exact (Below.refl _ _).alloc (Nat.le_refl _) _)
  have hX0 : Box8 w0 w.heap.size P n cap N := (by rw [hw0']; exact box8_new w P n cap N)
  have hz0 := hb0.size
  have x0 := hX0.c0
  have x1 := hX0.c1
  have hlt0 := hX0.lt
  have HWK := Lib.hid (fun W (hW : Below w.heap.size w W) => works8_any W (hdb.same (hW.block 0 hw0)) (Nat.lt_of_lt_of_le hw0 hW.size))
  have HDB := Lib.hid hdb
  have HW0 := Lib.hid hw0'
  have HB0 := Lib.hid hb0
  have HX0 := Lib.hid hX0
  clear hdb hw0' hb0 hX0
  rcases huge_or8 k N hF with hv | ⟨l, hv⟩
  · have HV := Lib.hid (vast_huge (Q := A) cap cap2 (hv.below HB0.out))
    clear hv hF hO
    go_enter Tryd.func11, Tryd.ntmps11
    go_upto_region 1 with (fail)
    rw [← HW0.out]
    go_wp2_with (first
      | (go_at_call 44; refine (HV.out).mono ?_; rintro e w1 ⟨rfl, hb1⟩; have HB1 := Lib.hid (HB0.out.trans (hb1.mono hz0)); clear hb1)
      | (go_at_call 43; refine (HWK.out _ HB1.out).mono ?_; rintro e w2 ⟨rfl, hb2⟩)
      | fail)
    go_ret
    exact ⟨rfl, HB1.out.trans (hb2.mono HB1.out.size)⟩
  have hk := hv.few
  have HN64 := Lib.hid hv.frames
  have HV := Lib.hid (vast_plain (Q := A) cap cap2 (hv.below HB0.out))
  have HPL := Lib.hid (hv.below HB0.out)
  clear hv hF
  by_cases hbad : (newM [rootNd] 0 l).1 ≠ 0 ∨ N < 1
  · have HBAD := Lib.hid hbad
    clear hbad hO
    go_enter Tryd.func11, Tryd.ntmps11
    go_upto_region 1 with (fail)
    rw [← HW0.out]
    go_wp2_with (first
      | (go_at_call 44; refine (HV.out).mono ?_; rintro e w1 ⟨rfl, hb1⟩; have HX1 := Lib.hid (HX0.out.below hb1 hlt0); have y0 := HX1.out.c0; have y1 := HX1.out.c1; have HIN1 := Lib.hid ((HPL.out.below hb1).ins); have HB1 := Lib.hid (HB0.out.trans (hb1.mono hz0)); have hz1 := HB1.out.size; clear hb1)
      | (go_at_call 45; refine (made8_bad P A n cap k cap2 N l _ HIN1.out HN64.out HBAD.out (HDB.out.same (HB1.out.block 0 hw0)) (by omega)).mono ?_; rintro e w2 ⟨rfl, hb2⟩; have HB2 := Lib.hid (HB1.out.trans (hb2.mono hz1)); clear hb2)
      | (go_at_call 43; refine (HWK.out _ HB2.out).mono ?_; rintro e w3 ⟨rfl, hb3⟩)
      | fail)
    go_ret
    exact ⟨rfl, HB2.out.trans (hb3.mono HB2.out.size)⟩
  obtain ⟨nf, rfl⟩ : ∃ nf : Nat, N = (nf : Int) := ⟨N.toNat, by omega⟩
  have hn1 : 1 ≤ nf := by omega
  have hn64 : nf ≤ 64 := by have := HN64.out; omega
  have HGOOD := Lib.hid (show (newM [rootNd] 0 l).1 = 0 from Classical.byContradiction fun h => hbad (.inl h))
  obtain ⟨ops, hops⟩ := hO.2 (by omega)
  have HOPS := Lib.hid hops
  have HLF := Lib.hid (filesOf_len (by have := HPL.out.ins.few; have := HPL.out.ins.len; omega : l.length ≤ 64))
  have HBY := Lib.hid (filesOf_bytes HPL.out.ins.ents.bytes)
  have HWI := Lib.hid hwi
  clear hbad hO hops HN64 hwi
  go_enter Tryd.func11, Tryd.ntmps11
  go_upto_region 1 with (fail)
  rw [← HW0.out]
  go_upto_region 6 with (first
    | (go_at_call 44; refine (HV.out).mono ?_; rintro e w1 ⟨rfl, hb1⟩; have HX1 := Lib.hid (HX0.out.below hb1 hlt0); have y0 := HX1.out.c0; have y1 := HX1.out.c1; have HIN1 := Lib.hid ((HPL.out.below hb1).ins); have HB1 := Lib.hid (HB0.out.trans (hb1.mono hz0)); have hz1 := HB1.out.size; clear hb1)
    | (go_at_call 45; refine (made8_any P A n cap k cap2 nf l ops _ HIN1.out hn1 hn64 HGOOD.out ((HOPS.out.below HB1.out (Nat.le_refl _)).more hz1) (by omega) (HDB.out.same (HB1.out.block 0 hw0)) (by omega)).mono ?_; rintro e w2 ⟨B, o, a, c, fs, m, S, s, Hl, cl, Hh, ch, rfl, hrun, hfine, hb2, hB⟩; have HRUN := Lib.hid hrun; have HFINE := Lib.hid hfine; have HB2 := Lib.hid (HB1.out.trans (hb2.mono hz1)); have hBw : w.heap.size ≤ B := (by omega); have hz2 := HB2.out.size; clear hrun hfine hb2 hB)
    | fail)
  obtain ⟨F, hFe⟩ : ∃ F, F = filesOf l := ⟨_, rfl⟩
  rw [← hFe] at HRUN HFINE HLF HBY
  clear hFe
  have o2 : w2.cell? ⟨o, 2, none⟩ = some (.pointer (some ⟨c, 0, none⟩)) := one_block HRUN.out.self 2
  have HGET := Lib.hid (get8 B o a c fs m nf k cl ch ino page w2 S F s _ Hl Hh HRUN.out HFINE.out (by omega) HBY.out HWI.out)
  go_upto_region 7 with (first
    | (go_at_call 36; refine (HGET.out).mono ?_; rintro e w3 ⟨r, f, p', L', clock', S3, rfl, HR3, HBL3, HRES⟩)
    | fail)
  have HB3 := Lib.hid (HB2.out.trans (HBL3.out.below.mono hBw))
  have hz3 := HB3.out.size
  by_cases hr0 : r = 0
  rotate_left
  · have r1 : (r != 0) = true := by rw [bne_iff_ne]; exact hr0
    have q0 : w3.cell? ⟨o, 0, none⟩ = some (.pointer (some ⟨a, 0, none⟩)) := one_block HR3.out.self 0
    have HFREE := Lib.hid (pfree_any a w3 S3 p' HR3.out.cache.pool)
    by_cases hr4 : r = 4
    · have hl0 := get_refused HRES.out hr4
      rw [hl0] at HFREE
      subst hr4
      clear hl0 r1 hr0
      go_wp2_with (first
        | (go_at_call 23; refine (HFREE.out).mono ?_; rintro e w4 ⟨rfl, rfl⟩)
        | fail)
      go_ret
      exact ⟨rfl, HB3.out⟩
    · have r2 : (r != 4) = true := by rw [bne_iff_ne]; exact hr4
      clear hr0 hr4
      go_wp2_with fail
      go_ret
      exact ⟨rfl, HB3.out⟩
  subst hr0
  have hG := HFINE.out.even.get HFINE.out.sole HFINE.out.filled (fun x hx => by rw [HFINE.out.size]; exact HFINE.out.slow x hx) HRES.out
  obtain ⟨g1, g2, ⟨sl, gs1, gs2, gs3, gs4⟩, g3, g4, g5⟩ := hG.there rfl
  have hdat : p'.dat f = pageD F ino page := by
    have h9 := hG.filled sl gs1
    rw [gs2, gs3, gs4] at h9
    exact h9
  have hfn : f < p'.n := by rw [hG.n]; exact g1
  obtain ⟨i, y, rfl, hy, hyk⟩ := readR_file g3
  obtain ⟨pg, rfl⟩ := Int.eq_ofNat_of_zero_le g4
  obtain ⟨B1, nb, c2, ad, mp, hFs⟩ := HR3.out.fs (Below.refl _ _)
  have hmeta := fmeta_yes B1 fs nb c2 i ad mp F y w3 hFs hy
  unfold metaV at hmeta
  rw [hyk] at hmeta
  have q1 : w3.cell? ⟨o, 1, none⟩ = some (.pointer (some ⟨fs, 0, none⟩)) := one_block HR3.out.self 1
  have HMETA := Lib.hid hmeta
  have HFS := Lib.hid hFs
  have HFINE3 := Lib.hid (HFINE.out.got HRES.out)
  have HG3 := Lib.hid g3
  have HSL := Lib.hid gs1
  have HGS := Lib.hid (show sl.ino = (i : Int) ∧ sl.page = (pg : Int) ∧ sl.frame = f from ⟨gs2, gs3, gs4⟩)
  have HDAT := Lib.hid hdat
  have HFN := Lib.hid hfn
  have HG1 := Lib.hid g2
  have hpg : pg < 16 := by omega
  have hp1 : ¬ (pg : Int) < 0 := by omega
  have hp2 : ¬ (15 : Int) < (pg : Int) := by omega
  clear hG g1 g2 g3 gs1 gs2 gs3 gs4 hdat hfn hmeta hFs hy hyk o2 g4 g5
  go_upto_region 10 with (first
    | (go_at_call 51; refine (HMETA.out).mono ?_; rintro e w4 ⟨rfl, hb4⟩)
    | fail)
  obtain ⟨w5, hw5⟩ : ∃ w5, w5 = w4.alloc (.cells #[.int .u8 1, .int .u16 (y.mode : Int), .int .u32 (y.uid : Int), .int .u32 (y.gid : Int), .int .i64 (y.n : Int)] 106) := ⟨_, rfl⟩
  rw [← hw5]
  have hb5 : Below w3.heap.size w3 w5 := by rw [hw5]; exact hb4.trans (((Below.refl _ _).alloc (Nat.le_refl _) _).mono hb4.size)
  have hX5 : w5.heap[w4.heap.size]? = some (.cells #[.int .u8 1, .int .u16 (y.mode : Int), .int .u32 (y.uid : Int), .int .u32 (y.gid : Int), .int .i64 (y.n : Int)] 106 (0, 0)) := by rw [hw5]; exact heap_alloc_new w4 _
  have k0 : w5.cell? ⟨w4.heap.size, 0, none⟩ = some (.int .u8 1) := one_block hX5 0
  have l1 := HR3.out.lts.1
  have k1 : w5.cell? ⟨o, 1, none⟩ = some (.pointer (some ⟨fs, 0, none⟩)) := (hb5.cell (p := ⟨o, 1, none⟩) l1).trans q1
  obtain ⟨R, hR⟩ : ∃ R, R = pageR F (i : Int) (pg : Int) := ⟨_, rfl⟩
  have hread := fread_any B1 fs nb c2 (pg * 4096) ad mp F (i : Int) w5 (HFS.out.below hb5) (by omega)
  have hRe : readR F (i : Int) (pg * 4096) = R := by
    rw [hR]
    unfold pageR
    rw [show ((pg : Int) * 4096).toNat = pg * 4096 by omega]
  rw [hRe, show (((pg * 4096 : Nat)) : Int) = (pg : Int) * 4096 by push_cast; rfl] at hread
  have hR0 : R.1 = 0 := by rw [hR]; exact HG3.out
  have hRk : R.2.1 ≤ 4096 := by rw [hR]; exact readR_few F _ _
  have hRD : ∀ j, j < R.2.1 → R.2.2 j = pageD F (i : Int) (pg : Int) j := fun j hj => by
    rw [hR] at hj ⊢
    exact (pageD_in hj).symm
  have hRD0 : ∀ j, R.2.1 ≤ j → pageD F (i : Int) (pg : Int) j = 0 := fun j hj => by
    rw [hR] at hj
    exact pageD_out hj
  obtain ⟨r, kk, dd⟩ := R
  simp only at hR0 hRk hRD hRD0
  subst hR0
  obtain ⟨D, hD⟩ : ∃ D, D = pageD F (i : Int) (pg : Int) := ⟨_, rfl⟩
  rw [← hD] at hRD hRD0 HDAT
  have HREAD := Lib.hid hread
  have HRD := Lib.hid hRD
  have HRD0 := Lib.hid hRD0
  have HD := Lib.hid hD
  have HB5 := Lib.hid hb5
  have hz5 := hb5.size
  have i9 : (pg : Int) * 4096 ≤ 65536 := by omega
  clear hread hRD hRD0 hD hR hRe hw5 hX5 hb4 hb5 q1
  go_upto_region 13 with (first
    | (go_at_call 52; refine (HREAD.out).mono ?_; rintro e w6 ⟨A6, cap6, rfl, _, _, hb6, hO6⟩)
    | fail)
  have HB6 := Lib.hid hb6
  have HO6 := Lib.hid (hO6.congr HRD.out)
  clear hb6 hO6 k0 k1
  go_wp2_with fail
  go_loopw [13] (fun v wr => ∃ A q cp, v = .slice A q cp ∧ kk ≤ q ∧ q ≤ 4096 ∧ OwnB wr w5.heap.size A cp q D ∧ Below w5.heap.size w5 wr) (fun v _ => match v with | .slice _ q _ => 4096 - q | _ => 0)
  case atStart => exact ⟨A6, kk, cap6, rfl, Nat.le_refl _, hRk, HO6.out, HB6.out⟩
  case round =>
    obtain ⟨A7, q, cp, rfl, hq1, hq2, hO7, hb7⟩ := hrel
    have HO7 := Lib.hid hO7
    have HB7 := Lib.hid hb7
    have hz7 := hb7.size
    clear hO7 hb7
    by_cases hlt : q < 4096
    · have HOA := Lib.hid (HO7.out.alloc8 (.cells #[.int .u8 0] 5))
      have hBA : Below w5.heap.size w5 (wr.alloc (.cells #[.int .u8 0] 5)) := HB7.out.alloc hz7 _
      have hsrc : BytesV (wr.alloc (.cells #[.int .u8 0] 5)) (some ⟨wr.heap.size, 0, none⟩) 1 (fun _ => 0) := fun _ => ⟨_, rfl, fun j hj => by
        obtain rfl : j = 0 := by omega
        exact one_block (heap_alloc_new wr _) 0⟩
      have HSRC := Lib.hid hsrc
      have HBA := Lib.hid hBA
      have HF7 := Lib.hid HO7.out.form8
      clear hsrc hBA
      go_wp2_with (first
        | (at_builtin; refine app_bytes rfl (.tmp 90) (.tmp 91) rfl w5.heap.size A7 cp q D rfl HOA.out ⟨wr.heap.size, 0, none⟩ 1 1 (fun _ => 0) rfl HSRC.out (by omega) (by omega) (by simp; omega) ?_; intro g8 cap8 w8 ho8 hg8 hat8 hlt8; have HB8 := Lib.hid (HBA.out.grown hg8 (by simp; omega) (fun k hk => (by rcases HF7.out with ⟨e, _⟩ | ⟨g', e, h1, _⟩; (rw [e] at hk; cases hk); (rw [e] at hk; simp at hk; omega)))); have HO8 := Lib.hid (ho8.congr (e := D) (fun j hj => (by by_cases h : j < q; (rw [if_pos h]); (rw [if_neg h]; exact (HRD0.out j (by omega)).symm)))); clear ho8 hg8 hat8)
        | fail)
      go_roundw
      case rel => exact ⟨_, q + 1, cap8, rfl, by omega, by omega, HO8.out, HB8.out⟩
      case measure => (simp; omega)
    · obtain rfl : q = 4096 := by omega
      rcases HO7.out.form8 with ⟨_, h, _⟩ | ⟨g7, rfl, hg7, hg7', hcp⟩
      · omega
      have hb37 : Below w3.heap.size w3 wr := HB5.out.trans (HB7.out.mono hz5)
      have HR7 := Lib.hid (HR3.out.below hb37)
      have HB37 := Lib.hid (HB3.out.trans (hb37.mono hz3))
      have p2 : wr.cell? ⟨o, 2, none⟩ = some (.pointer (some ⟨c, 0, none⟩)) := one_block HR7.out.self 2
      have HGET2 := Lib.hid (get8 B o a c fs m nf (k + 1) cl ch (i : Int) (pg : Int) wr S3 F _ _ Hl Hh HR7.out HFINE3.out (by omega) HBY.out HWI.out)
      clear hb37
      go_upto_region 18 with (first
        | (go_at_call 36; refine (HGET2.out).mono ?_; rintro e w8 ⟨r2, f2, p2', L2, clock2, S8, rfl, HR8, HBL8, HRES8⟩)
        | fail)
      obtain ⟨e1, e2, e3⟩ := get_again HRES8.out HFINE3.out.sole HSL.out HGS.out.1 HGS.out.2.1 (by omega) (by omega) HG3.out
      obtain rfl : r2 = 0 := e1
      obtain rfl : f = f2 := (e2.trans HGS.out.2.2).symm
      obtain rfl : p' = p2' := e3.symm
      have y0 : w8.cell? ⟨o, 0, none⟩ = some (.pointer (some ⟨a, 0, none⟩)) := one_block HR8.out.self 0
      have HLD := Lib.hid (load_yes a f 0 4096 w8 S8 p' HR8.out.cache.pool HFN.out HG1.out (by omega) (by omega))
      have hg78 : w8.heap[g7]? = wr.heap[g7]? := HBL8.out.mod.block g7 hg7' (fun e => by have := HR3.out.foot_lt e; omega)
      have HO8 := Lib.hid (HO7.out.same8 (w' := w8) fun g e => by injection e with e; injection e with e; subst e; exact hg78)
      have HB8 := Lib.hid (HB37.out.trans (HBL8.out.below.mono hBw))
      have hz8 := HB8.out.size
      have hg8' : g7 < w8.heap.size := HO8.out.form.2
      clear e2 p2 hg78
      go_upto_region 19 with (first
        | (go_at_call 47; refine (HLD.out).mono ?_; rintro e w9 ⟨rfl, hA9, hl9, hb9⟩)
        | fail)
      have h1 : ∀ j, j < 4096 → w9.cell? ⟨w8.heap.size, j, none⟩ = some (.int .u8 (D j : Int)) := fun j hj => by
        rw [row_cell hA9 hj]
        simp only [Nat.zero_add, HDAT.out]
      have h2 : ∀ j, j < 4096 → w9.cell? ⟨g7, j, none⟩ = some (.int .u8 (D j : Int)) := fun j hj => (hb9.cell (p := ⟨g7, j, none⟩) hg8').trans (HO8.out.cell hj)
      have HSAME := Lib.hid (same8_yes w8.heap.size g7 4096 cp 4096 D w9 hl9 (by have := hb9.size; omega) h1 h2 (Nat.le_refl _) hcp (by omega))
      have HB9 := Lib.hid (HB8.out.trans (hb9.mono hz8))
      have hz9 := HB9.out.size
      clear h1 h2 hA9 hb9 y0
      go_wp2_with (first
        | (go_at_call 49; refine (HSAME.out).mono ?_; rintro e w10 ⟨rfl, hb10⟩; have HB10 := Lib.hid (HB9.out.trans (hb10.mono hz9)); clear hb10)
        | (go_at_call 43; refine (HWK.out _ HB10.out).mono ?_; rintro e w11 ⟨rfl, hb11⟩)
        | fail)
      go_ret
      exact ⟨rfl, HB10.out.trans (hb11.mono HB10.out.size)⟩

end Go.Proofs.YtmkgdgfbdmjeeaaDoor
