/- CacheHolds, its walk. -/
import Derived.Test.YtmkgdgfbdmjeeaaDoorVqS
namespace Go.Proofs.YtmkgdgfbdmjeeaaDoor
open Go.RowKit Go.Sort
set_option linter.unusedSimpArgs false
set_option linter.unusedVariables false

/-- One frame is held beside all others. -/
def one8 (f : Nat) : Nat → Nat := fun g => if g = f then 1 else 0
theorem St8.Fine.hold1 {F : List Nd} {s : St8} {n k f : Nat} (h : s.Fine F (fun _ => 0) n k) : St8.Fine ⟨s.p.up f, s.L, s.clock, s.l, s.h⟩ F (one8 f) n k :=
  ⟨fun g hg => by
    have h1 : s.p.cnt g = slotN s.L g + (cntL s.h g + 0) := h.even g hg
    show upd s.p.cnt f (s.p.cnt f + 1) g = slotN s.L g + (cntL s.h g + one8 f g)
    unfold one8
    by_cases e : g = f
    · subst e
      rw [upd_same, if_pos rfl]
      omega
    · rw [upd_ne _ _ e, if_neg e]
      omega, h.sole, h.filled, h.size, h.few, h.lowL, h.lowH, h.slow, h.keys⟩

set_option maxRecDepth 100000 in
set_option maxHeartbeats 4000000 in
theorem holds8_any (P A Z : Option Addr) (n cap k cap2 z cap3 : Nat) (N ino page : Int) (w : World) (hF : ArgF8 w P n cap) (hO : ArgO8 w A k cap2) (hOz : ArgO8 w Z z cap3) (hwi : (Lit.int .i64 ino).wf = true) (hdb : DB w) (hw0 : 0 < w.heap.size) :
    Calls Tryd.prog 9 #[.agg #[.slice P n cap, .int .i64 N], .slice A k cap2, .slice Z z cap3, .int .i64 ino, .int .i64 page] w (LawPost8 w) := by
  obtain ⟨w0, hw0'⟩ : ∃ w0, w0 = w.alloc (.cells #[.slice P n cap, .int .i64 N] 85) := ⟨_, rfl⟩
  have hb0 : Below w.heap.size w w0 := (by rw [hw0']; exact (Below.refl _ _).alloc (Nat.le_refl _) _)
  have hX0 : Box8 w0 w.heap.size P n cap N := (by rw [hw0']; exact box8_new w P n cap N)
  have hz0 := hb0.size
  have x0 := hX0.c0
  have x1 := hX0.c1
  have hlt0 := hX0.lt
  have HWK := Lib.hid (fun W (hW : Below w.heap.size w W) => works8_any W (hdb.same (hW.block 0 hw0)) (Nat.lt_of_lt_of_le hw0 hW.size))
  have HDB := Lib.hid hdb
  have HW0 := Lib.hid hw0'
  have HB0 := Lib.hid hb0
  have HX0 := Lib.hid hX0
  clear hdb hw0' hb0 hX0
  rcases huge_or8 k N hF with hv | ⟨l, hv⟩
  · have HV := Lib.hid (vast_huge (Q := A) cap cap2 (hv.below HB0.out))
    clear hv hF hO hOz
    go_enter Tryd.func9, Tryd.ntmps9
    go_upto_region 1 with (fail)
    rw [← HW0.out]
    go_wp2_with (first
      | (go_at_call 44; refine (HV.out).mono ?_; rintro e w1 ⟨rfl, hb1⟩; have HB1 := Lib.hid (HB0.out.trans (hb1.mono hz0)); clear hb1)
      | (go_at_call 43; refine (HWK.out _ HB1.out).mono ?_; rintro e w2 ⟨rfl, hb2⟩)
      | fail)
    go_ret
    exact ⟨rfl, HB1.out.trans (hb2.mono HB1.out.size)⟩
  have hk := hv.few
  have HV := Lib.hid (vast_plain (Q := A) cap cap2 (hv.below HB0.out))
  by_cases hzz : (200 : Int) < (z : Int)
  · have HVZ := Lib.hid (fun W => vast8_yes P n cap z cap3 Z N W (.inl hzz))
    clear hv hF hO hOz hzz
    go_enter Tryd.func9, Tryd.ntmps9
    go_upto_region 1 with (fail)
    rw [← HW0.out]
    go_wp2_with (first
      | (go_at_call 44; (with_reducible refine (HV.out).mono ?_); rintro e w1 ⟨rfl, hb1⟩; have HX1 := Lib.hid (HX0.out.below hb1 hlt0); have y0 := HX1.out.c0; have y1 := HX1.out.c1; have HB1 := Lib.hid (HB0.out.trans (hb1.mono hz0)); have hz1 := HB1.out.size; clear hb1)
      | (go_at_call 44; (with_reducible refine (HVZ.out _).mono ?_); rintro e w2 ⟨rfl, hb2⟩; have HB2 := Lib.hid (HB1.out.trans (hb2.mono hz1)); clear hb2)
      | (go_at_call 43; refine (HWK.out _ HB2.out).mono ?_; rintro e w3 ⟨rfl, hb3⟩)
      | fail)
    go_ret
    exact ⟨rfl, HB2.out.trans (hb3.mono HB2.out.size)⟩
  have hvz : Plain8 w P n z N l := ⟨hv.ins, hv.great, by omega, hv.frames⟩
  have HN64 := Lib.hid hv.frames
  have HVZ := Lib.hid (fun W (hW : Below w.heap.size w W) => vast_plain (Q := Z) cap cap3 (hvz.below hW))
  have HPL := Lib.hid hv
  have hz200 : (z : Int) ≤ 200 := hvz.few
  clear hv hF hvz hzz
  by_cases hbad : (newM [rootNd] 0 l).1 ≠ 0 ∨ N < 1
  · have HBAD := Lib.hid hbad
    clear hbad hO hOz
    go_enter Tryd.func9, Tryd.ntmps9
    go_upto_region 1 with (fail)
    rw [← HW0.out]
    go_wp2_with (first
      | (go_at_call 44; (with_reducible refine (HV.out).mono ?_); rintro e wv ⟨rfl, hbv⟩; have HXV := Lib.hid (HX0.out.below hbv hlt0); have v0 := HXV.out.c0; have v1 := HXV.out.c1; have HBV := Lib.hid (HB0.out.trans (hbv.mono hz0)); have hzv := HBV.out.size; have hltv := HXV.out.lt; clear hbv)
      | (go_at_call 44; (with_reducible refine (HVZ.out _ HBV.out).mono ?_); rintro e w1 ⟨rfl, hb1⟩; have HX1 := Lib.hid (HXV.out.below hb1 hltv); have y0 := HX1.out.c0; have y1 := HX1.out.c1; have HB1 := Lib.hid (HBV.out.trans (hb1.mono hzv)); have HIN1 := Lib.hid ((HPL.out.below HB1.out).ins); have hz1 := HB1.out.size; clear hb1)
      | (go_at_call 45; refine (made8_bad P A n cap k cap2 N l _ HIN1.out HN64.out HBAD.out (HDB.out.same (HB1.out.block 0 hw0)) (by omega)).mono ?_; rintro e w2 ⟨rfl, hb2⟩; have HB2 := Lib.hid (HB1.out.trans (hb2.mono hz1)); clear hb2)
      | (go_at_call 43; refine (HWK.out _ HB2.out).mono ?_; rintro e w3 ⟨rfl, hb3⟩)
      | fail)
    go_ret
    exact ⟨rfl, HB2.out.trans (hb3.mono HB2.out.size)⟩
  obtain ⟨nf, rfl⟩ : ∃ nf : Nat, N = (nf : Int) := ⟨N.toNat, by omega⟩
  have hn1 : 1 ≤ nf := by omega
  have hn64 : nf ≤ 64 := by have := HN64.out; omega
  have HGOOD := Lib.hid (show (newM [rootNd] 0 l).1 = 0 from Classical.byContradiction fun h => hbad (.inl h))
  obtain ⟨ops, hops⟩ := hO.2 (by omega)
  obtain ⟨opz, hopz⟩ := hOz.2 (by omega)
  have HOPS := Lib.hid hops
  have HOPZ := Lib.hid hopz
  have HLF := Lib.hid (filesOf_len (by have := HPL.out.ins.few; have := HPL.out.ins.len; omega : l.length ≤ 64))
  have HBY := Lib.hid (filesOf_bytes HPL.out.ins.ents.bytes)
  have HWI := Lib.hid hwi
  clear hbad hO hOz hops hopz HN64 hwi
  go_enter Tryd.func9, Tryd.ntmps9
  go_upto_region 1 with (fail)
  rw [← HW0.out]
  go_upto_region 6 with (first
    | (go_at_call 44; (with_reducible refine (HV.out).mono ?_); rintro e wv ⟨rfl, hbv⟩; have HXV := Lib.hid (HX0.out.below hbv hlt0); have v0 := HXV.out.c0; have v1 := HXV.out.c1; have HBV := Lib.hid (HB0.out.trans (hbv.mono hz0)); have hzv := HBV.out.size; have hltv := HXV.out.lt; clear hbv)
      | (go_at_call 44; (with_reducible refine (HVZ.out _ HBV.out).mono ?_); rintro e w1 ⟨rfl, hb1⟩; have HX1 := Lib.hid (HXV.out.below hb1 hltv); have y0 := HX1.out.c0; have y1 := HX1.out.c1; have HB1 := Lib.hid (HBV.out.trans (hb1.mono hzv)); have HIN1 := Lib.hid ((HPL.out.below HB1.out).ins); have hz1 := HB1.out.size; clear hb1)
    | (go_at_call 45; refine (made8_any P A n cap k cap2 nf l ops _ HIN1.out hn1 hn64 HGOOD.out ((HOPS.out.below HB1.out (Nat.le_refl _)).more hz1) (by omega) (HDB.out.same (HB1.out.block 0 hw0)) (by omega)).mono ?_; rintro e w2 ⟨B, o, a, c, fs, m, S, s, Hl, cl, Hh, ch, rfl, hrun, hfine, hb2, hB⟩; have HRUN := Lib.hid hrun; have HFINE := Lib.hid hfine; have HB2 := Lib.hid (HB1.out.trans (hb2.mono hz1)); have hBw : w.heap.size ≤ B := (by omega); have hz2 := HB2.out.size; clear hrun hfine hb2 hB)
    | fail)
  obtain ⟨F, hFe⟩ : ∃ F, F = filesOf l := ⟨_, rfl⟩
  rw [← hFe] at HRUN HFINE HLF HBY
  clear hFe
  have o2 : w2.cell? ⟨o, 2, none⟩ = some (.pointer (some ⟨c, 0, none⟩)) := one_block HRUN.out.self 2
  have HGET := Lib.hid (get8 B o a c fs m nf k cl ch ino page w2 S F s _ Hl Hh HRUN.out HFINE.out (by omega) HBY.out HWI.out)
  go_upto_region 7 with (first
    | (go_at_call 36; refine (HGET.out).mono ?_; rintro e w3 ⟨r, f, p', L', clock', S3, rfl, HR3, HBL3, HRES⟩)
    | fail)
  have HB3 := Lib.hid (HB2.out.trans (HBL3.out.below.mono hBw))
  have hz3 := HB3.out.size
  by_cases hr0 : r = 0
  rotate_left
  · have r1 : (r != 0) = true := by rw [bne_iff_ne]; exact hr0
    clear hr0
    go_wp2_with (first
      | (go_at_call 43; refine (HWK.out _ HB3.out).mono ?_; rintro e w4 ⟨rfl, hb4⟩)
      | fail)
    go_ret
    exact ⟨rfl, HB3.out.trans (hb4.mono hz3)⟩
  subst hr0
  have hG := HFINE.out.even.get HFINE.out.sole HFINE.out.filled (fun x hx => by rw [HFINE.out.size]; exact HFINE.out.slow x hx) HRES.out
  obtain ⟨g1, g2, ⟨sl, gs1, gs2, gs3, gs4⟩, g3, g4, g5⟩ := hG.there rfl
  have hdat : p'.dat f = pageD F ino page := by
    have h9 := hG.filled sl gs1
    rw [gs2, gs3, gs4] at h9
    exact h9
  have hfn : f < p'.n := by rw [hG.n]; exact g1
  have HFN3 := Lib.hid (HFINE.out.got HRES.out)
  have htk : takenB p' (f : Int) = true := by rw [takenB_nat]; exact decide_eq_true ⟨hfn, by omega⟩
  have hcap : p'.cnt f + 1 < 1000000000000 := by
    have h2 : p'.cnt f = slotN L' f + (cntL s.h f + 0) := HFN3.out.even f hfn
    have h3 := slotN_le L' f
    have h4 := cntL_le s.h f
    have h5 : L'.length ≤ k + 1 ∧ s.l.length ≤ k + 1 ∧ s.h.length ≤ k + 1 ∧ 0 ≤ clock' ∧ clock' ≤ (k + 1 : Nat) := HFN3.out.few
    omega
  have hup := up_yes a f w3 S3 p' HR3.out.cache.pool htk hcap
  have hup2 : Calls Tryd.prog 46 #[.pointer (some ⟨a, 0, none⟩), .int .i64 (f : Nat)] w3 fun e w4 => e = .returned (.int .i64 0) ∧ Hid (Run8 w4 B o a c fs m S3 F ⟨p'.up f, L', clock', s.l, s.h⟩ Hl cl Hh ch) ∧ Hid (Below B w3 w4) := by
    refine hup.mono ?_
    rintro e w4 ⟨rfl, hP4, hm4⟩
    obtain ⟨hrun4, hst4⟩ := HR3.out.turn (Below.refl _ _) (HR3.out.cache.turn hm4 hP4 (Out.refl _ _)) (hm4.sub fun b hb => .inl hb) (Out.refl _ _)
    exact ⟨rfl, Lib.hid hrun4, Lib.hid hst4.below⟩
  have HUP := Lib.hid hup2
  have HFN4 := Lib.hid (HFN3.out.hold1 (f := f))
  have HDAT := Lib.hid hdat
  have HFL := Lib.hid hfn
  have HSL := Lib.hid (show ∃ x ∈ L', x.ino = ino ∧ x.page = page ∧ x.frame = f from ⟨sl, gs1, gs2, gs3, gs4⟩)
  have HPG := Lib.hid (show (pageR F ino page).1 = 0 ∧ 0 ≤ page ∧ page < 16 from ⟨g3, g4, g5⟩)
  have q0 : w3.cell? ⟨o, 0, none⟩ = some (.pointer (some ⟨a, 0, none⟩)) := one_block HR3.out.self 0
  clear hG g1 g2 g3 gs1 gs2 gs3 gs4 hdat hfn htk hcap hup hup2 o2 g4 g5 sl
  go_upto_region 10 with (first
    | (go_at_call 46; refine (HUP.out).mono ?_; rintro e w4 ⟨rfl, HR4, HBL4⟩)
    | fail)
  have k0 : w4.cell? ⟨o, 0, none⟩ = some (.pointer (some ⟨a, 0, none⟩)) := one_block HR4.out.self 0
  have HLD := Lib.hid (load_yes a f 0 4096 w4 S3 (p'.up f) HR4.out.cache.pool HFL.out (by show 1 ≤ upd p'.cnt f _ f; rw [upd_same]; omega) (by omega) (by omega))
  go_upto_region 11 with (first
    | (go_at_call 47; refine (HLD.out).mono ?_; rintro e w5 ⟨rfl, hA5, hl5, hb5⟩)
    | fail)
  obtain ⟨gw, hgw⟩ : ∃ gw, gw = w4.heap.size := ⟨_, rfl⟩
  rw [← hgw] at hA5 hl5 ⊢
  obtain ⟨D, hD⟩ : ∃ D, D = pageD F ino page := ⟨_, rfl⟩
  have hA5' : BytesAt w5 gw 4096 D := by
    have e : (fun i => (p'.up f).dat f (0 + i)) = D := by
      funext i
      rw [Nat.zero_add, hD, ← HDAT.out]
      rfl
    rw [e] at hA5
    exact hA5
  have hnf : ¬ Foot8 S3 o c m Hl Hh gw := fun e => by have := HR4.out.foot_lt e; omega
  have HR5 := Lib.hid (HR4.out.below hb5)
  have HB5 := Lib.hid (HB3.out.trans ((HBL4.out.mono hBw).trans (hb5.mono (by have := HBL4.out.size; omega))))
  have HA5 := Lib.hid hA5'
  have HNF := Lib.hid hnf
  have HD := Lib.hid hD
  have HGW := Lib.hid hgw
  clear hA5 hA5' hnf hb5 q0 k0 hD hgw
  go_wp2_with fail
  go_loopw [16] (fun i wr => ∃ (j : Nat) (S : Nat → Prop) (s : St8) (Hl : Option Addr) (cl : Nat) (Hh : Option Addr) (ch : Nat), i = .int .i64 (j : Int) ∧ j ≤ z ∧ Run8 wr B o a c fs m S F s Hl cl Hh ch ∧ s.Fine F (one8 f) nf (k + 1 + j) ∧ (∃ x ∈ s.L, x.ino = ino ∧ x.page = page ∧ x.frame = f) ∧ Below w.heap.size w wr ∧ BytesAt wr gw 4096 D ∧ ¬ Foot8 S o c m Hl Hh gw) (fun i _ => z - (intOf i).toNat)
  case atStart => exact ⟨0, S3, _, Hl, cl, Hh, ch, rfl, Nat.zero_le _, HR5.out, HFN4.out, HSL.out, HB5.out, HA5.out, HNF.out⟩
  case round =>
    clear HR5 HR4 HR3 HRUN HFINE HFN3 HFN4 HSL HB5 HA5 HNF HBL3 HBL4 HLD HUP HGET HRES HDAT HFL
    obtain ⟨j, S, s, Hl, cl, Hh, ch, rfl, hj, hrun, hfine, hsl, hbel, hrow, hno⟩ := hrel
    have HR8 := Lib.hid hrun
    have HBE := Lib.hid hbel
    have HFI := Lib.hid hfine
    have HSL := Lib.hid hsl
    have HROW := Lib.hid hrow
    have HNO := Lib.hid hno
    clear hrun hbel hfine hsl hrow hno
    by_cases hlt : j < z
    · obtain ⟨x, hx⟩ : ∃ x, opz[j]? = some x := ⟨opz[j]'(by rw [HOPZ.out.len]; exact hlt), List.getElem?_eq_getElem _⟩
      obtain ⟨b, off, rfl, hbw, hat⟩ := HOPZ.out.at_ j x hx
      have hok := HOPZ.out.ok x (List.mem_of_getElem? hx)
      have hat2 := hat.below HBE.out hbw
      obtain ⟨c0, c1, c2, c3⟩ := hat2
      have hdo := does8_any B o a c fs m nf (k + 1 + j) cl ch x wr S F s (one8 f) Hl Hh HR8.out HFI.out (by omega) HBY.out (fun g => by unfold one8; split <;> omega) hok
      obtain ⟨K, oi, op, ON⟩ := x
      simp only at c0 c1 c2 c3
      have hdo' : Calls Tryd.prog 48 #[.pointer (some ⟨o, 0, none⟩), .agg #[.int .i64 K, .int .i64 oi, .int .i64 op, .int .i64 ON]] wr (Does8Post wr B o a c fs m S Hl Hh F ⟨K, oi, op, ON⟩ s) := hdo
      have HDO := Lib.hid hdo'
      clear hat hx hok hdo hdo'
      by_cases hK : K = 4
      · subst hK
        go_wp2_with fail
        go_roundw
        case rel => exact ⟨j + 1, S, s, Hl, cl, Hh, ch, by go_num, by omega, HR8.out, HFI.out.more (by omega), HSL.out, HBE.out, HROW.out, HNO.out⟩
        case measure => (simp [intOf]; omega)
      · have k4 : (K != 4) = true := by rw [bne_iff_ne]; exact hK
        have HK := Lib.hid hK
        clear hK
        go_wp2_with (first
          | (go_at_call 48; refine (HDO.out).mono ?_; rintro e w6 ⟨rfl, s', S', Hl', cl', Hh', ch', hrun2, hres, hst⟩; have HR6 := Lib.hid hrun2; have HRES := Lib.hid hres; have HST := Lib.hid hst; clear hrun2 hres hst)
          | fail)
        obtain ⟨x, hx, hx1, hx2, hx3⟩ := HSL.out
        obtain ⟨y, hy, hy1, hy2, hy3⟩ := HRES.out.stays HFI.out HK.out hx (by rw [hx3]; unfold one8; rw [if_pos rfl]; omega)
        have hgl : gw < wr.heap.size := (Array.getElem?_eq_some_iff.1 HROW.out).1
        go_roundw
        case rel => exact ⟨j + 1, S', s', Hl', cl', Hh', ch', by go_num, by omega, HR6.out, HFI.out.step HRES.out, ⟨y, hy, hy1.trans hx1, hy2.trans hx2, hy3.trans hx3⟩, HBE.out.trans (HST.out.below.mono hBw), (HST.out.mod.block gw hgl HNO.out).trans HROW.out, fun e => (HST.out.out gw e).elim HNO.out (by omega)⟩
        case measure => (simp [intOf]; omega)
    · obtain rfl : j = z := by omega
      have p2 : wr.cell? ⟨o, 2, none⟩ = some (.pointer (some ⟨c, 0, none⟩)) := one_block HR8.out.self 2
      have HGET2 := Lib.hid (get8 B o a c fs m nf (k + 1 + j) cl ch ino page wr S F s _ Hl Hh HR8.out HFI.out (by omega) HBY.out HWI.out)
      go_upto_region 19 with (first
        | (go_at_call 36; refine (HGET2.out).mono ?_; rintro e w8 ⟨r2, f2, p2', L2, clock2, S8, rfl, HR9, HBL9, HRES8⟩)
        | fail)
      obtain ⟨x, hx, hx1, hx2, hx3⟩ := HSL.out
      obtain ⟨e1, e2, e3⟩ := get_again HRES8.out HFI.out.sole hx hx1 hx2 HPG.out.2.1 HPG.out.2.2 HPG.out.1
      obtain rfl : r2 = 0 := e1
      obtain rfl : f = f2 := (e2.trans hx3).symm
      have hdat : s.p.dat f = D := by
        have h9 := HFI.out.filled x hx
        rw [hx1, hx2, hx3] at h9
        rw [h9, HD.out]
      have hfn : f < s.p.n := by rw [HFI.out.size, ← hx3]; exact HFI.out.slow x hx
      have hc1 : 1 ≤ s.p.cnt f := by
        have h9 : s.p.cnt f = slotN s.L f + (cntL s.h f + one8 f f) := HFI.out.even f hfn
        unfold one8 at h9
        rw [if_pos rfl] at h9
        omega
      rw [← e3] at hdat hfn hc1
      have y0 : w8.cell? ⟨o, 0, none⟩ = some (.pointer (some ⟨a, 0, none⟩)) := one_block HR9.out.self 0
      have HLD := Lib.hid (load_yes a f 0 4096 w8 S8 p2' HR9.out.cache.pool hfn hc1 (by omega) (by omega))
      have hgl : gw < wr.heap.size := (Array.getElem?_eq_some_iff.1 HROW.out).1
      have hgl8 : gw < w8.heap.size := Nat.lt_of_lt_of_le hgl HBL9.out.below.size
      have HROW8 : Hid (BytesAt w8 gw 4096 D) := Lib.hid ((HBL9.out.mod.block gw hgl HNO.out).trans HROW.out)
      have HDT := Lib.hid hdat
      have HB8 := Lib.hid (HBE.out.trans (HBL9.out.below.mono hBw))
      have hz8 := HB8.out.size
      clear e2 p2 e3 hx hx1 hx2 hx3 hfn hc1 hdat hgl
      go_upto_region 20 with (first
        | (go_at_call 47; refine (HLD.out).mono ?_; rintro e w9 ⟨rfl, hA9, hl9, hb9⟩)
        | fail)
      have h1 : ∀ j, j < 4096 → w9.cell? ⟨w8.heap.size, j, none⟩ = some (.int .u8 (D j : Int)) := fun j hj => by
        rw [row_cell hA9 hj]
        simp only [Nat.zero_add, HDT.out]
      have h2 : ∀ j, j < 4096 → w9.cell? ⟨gw, j, none⟩ = some (.int .u8 (D j : Int)) := fun j hj => (hb9.cell (p := ⟨gw, j, none⟩) hgl8).trans (row_cell HROW8.out hj)
      have HSAME := Lib.hid (same8_yes w8.heap.size gw 4096 4096 4096 D w9 hl9 (by have := hb9.size; omega) h1 h2 (Nat.le_refl _) (Nat.le_refl _) (by omega))
      have HB9 := Lib.hid (HB8.out.trans (hb9.mono hz8))
      have hz9 := HB9.out.size
      clear h1 h2 hA9 hb9 y0
      go_wp2_with (first
        | (go_at_call 49; refine (HSAME.out).mono ?_; rintro e w10 ⟨rfl, hb10⟩; have HB10 := Lib.hid (HB9.out.trans (hb10.mono hz9)); clear hb10)
        | (go_at_call 43; refine (HWK.out _ HB10.out).mono ?_; rintro e w11 ⟨rfl, hb11⟩)
        | fail)
      go_ret
      exact ⟨rfl, HB10.out.trans (hb11.mono HB10.out.size)⟩

end Go.Proofs.YtmkgdgfbdmjeeaaDoor
