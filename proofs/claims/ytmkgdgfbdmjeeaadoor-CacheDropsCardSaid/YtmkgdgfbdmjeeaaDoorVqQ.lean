/- CacheDrops, its walk. -/
import Derived.Test.YtmkgdgfbdmjeeaaDoorVqP
namespace Go.Proofs.YtmkgdgfbdmjeeaaDoor
open Go.RowKit Go.Sort
set_option linter.unusedSimpArgs false
set_option linter.unusedVariables false

set_option maxRecDepth 100000 in
set_option maxHeartbeats 4000000 in
theorem drops8_any (P A : Option Addr) (n cap k cap2 : Nat) (N : Int) (w : World) (hF : ArgF8 w P n cap) (hO : ArgO8 w A k cap2) (hdb : DB w) (hw0 : 0 < w.heap.size) :
    Calls Tryd.prog 13 #[.agg #[.slice P n cap, .int .i64 N], .slice A k cap2] w (LawPost8 w) := by
  obtain ⟨w0, hw0'⟩ : ∃ w0, w0 = w.alloc (.cells #[.slice P n cap, .int .i64 N] 85) := ⟨_, rfl⟩
  have hb0 : Below w.heap.size w w0 := (by rw [hw0']; exact (Below.refl _ _).alloc (Nat.le_refl _) _)
  have hX0 : Box8 w0 w.heap.size P n cap N := (by rw [hw0']; exact box8_new w P n cap N)
  have hz0 := hb0.size
  have x0 := hX0.c0
  have x1 := hX0.c1
  have hlt0 := hX0.lt
  have HWK := Lib.hid (fun W (hW : Below w.heap.size w W) => works8_any W (hdb.same (hW.block 0 hw0)) (Nat.lt_of_lt_of_le hw0 hW.size))
  have HDB := Lib.hid hdb
  have HW0 := Lib.hid hw0'
  have HB0 := Lib.hid hb0
  have HX0 := Lib.hid hX0
  clear hdb hw0' hb0 hX0
  rcases huge_or8 k N hF with hv | ⟨l, hv⟩
  · have HV := Lib.hid (vast_huge (Q := A) cap cap2 (hv.below HB0.out))
    clear hv hF hO
    go_enter Tryd.func13, Tryd.ntmps13
    go_upto_region 1 with (fail)
    rw [← HW0.out]
    go_wp2_with (first
      | (go_at_call 44; refine (HV.out).mono ?_; rintro e w1 ⟨rfl, hb1⟩; have HB1 := Lib.hid (HB0.out.trans (hb1.mono hz0)); clear hb1)
      | (go_at_call 43; refine (HWK.out _ HB1.out).mono ?_; rintro e w2 ⟨rfl, hb2⟩)
      | fail)
    go_ret
    exact ⟨rfl, HB1.out.trans (hb2.mono HB1.out.size)⟩
  have hk := hv.few
  have HN64 := Lib.hid hv.frames
  have HV := Lib.hid (vast_plain (Q := A) cap cap2 (hv.below HB0.out))
  have HPL := Lib.hid (hv.below HB0.out)
  clear hv hF
  by_cases hbad : (newM [rootNd] 0 l).1 ≠ 0 ∨ N < 1
  · have HBAD := Lib.hid hbad
    clear hbad hO
    go_enter Tryd.func13, Tryd.ntmps13
    go_upto_region 1 with (fail)
    rw [← HW0.out]
    go_wp2_with (first
      | (go_at_call 44; refine (HV.out).mono ?_; rintro e w1 ⟨rfl, hb1⟩; have HX1 := Lib.hid (HX0.out.below hb1 hlt0); have y0 := HX1.out.c0; have y1 := HX1.out.c1; have HIN1 := Lib.hid ((HPL.out.below hb1).ins); have HB1 := Lib.hid (HB0.out.trans (hb1.mono hz0)); have hz1 := HB1.out.size; clear hb1)
      | (go_at_call 45; refine (made8_bad P A n cap k cap2 N l _ HIN1.out HN64.out HBAD.out (HDB.out.same (HB1.out.block 0 hw0)) (by omega)).mono ?_; rintro e w2 ⟨rfl, hb2⟩; have HB2 := Lib.hid (HB1.out.trans (hb2.mono hz1)); clear hb2)
      | (go_at_call 43; refine (HWK.out _ HB2.out).mono ?_; rintro e w3 ⟨rfl, hb3⟩)
      | fail)
    go_ret
    exact ⟨rfl, HB2.out.trans (hb3.mono HB2.out.size)⟩
  obtain ⟨nf, rfl⟩ : ∃ nf : Nat, N = (nf : Int) := ⟨N.toNat, by omega⟩
  have hn1 : 1 ≤ nf := by omega
  have hn64 : nf ≤ 64 := by have := HN64.out; omega
  have HGOOD := Lib.hid (show (newM [rootNd] 0 l).1 = 0 from Classical.byContradiction fun h => hbad (.inl h))
  obtain ⟨ops, hops⟩ := hO.2 (by omega)
  have HOPS := Lib.hid hops
  have HLF := Lib.hid (filesOf_len (by have := HPL.out.ins.few; have := HPL.out.ins.len; omega : l.length ≤ 64))
  clear hbad hO hops HN64
  go_enter Tryd.func13, Tryd.ntmps13
  go_upto_region 1 with (fail)
  rw [← HW0.out]
  go_upto_region 6 with (first
    | (go_at_call 44; refine (HV.out).mono ?_; rintro e w1 ⟨rfl, hb1⟩; have HX1 := Lib.hid (HX0.out.below hb1 hlt0); have y0 := HX1.out.c0; have y1 := HX1.out.c1; have HIN1 := Lib.hid ((HPL.out.below hb1).ins); have HB1 := Lib.hid (HB0.out.trans (hb1.mono hz0)); have hz1 := HB1.out.size; clear hb1)
    | (go_at_call 45; refine (made8_any P A n cap k cap2 nf l ops _ HIN1.out hn1 hn64 HGOOD.out ((HOPS.out.below HB1.out (Nat.le_refl _)).more hz1) (by omega) (HDB.out.same (HB1.out.block 0 hw0)) (by omega)).mono ?_; rintro e w2 ⟨B, o, a, c, fs, m, S, s, Hl, cl, Hh, ch, rfl, hrun, hfine, hb2, hB⟩; have HRUN := Lib.hid hrun; have HFINE := Lib.hid hfine; have HB2 := Lib.hid (HB1.out.trans (hb2.mono hz1)); have hBw : w.heap.size ≤ B := (by omega); have hz2 := HB2.out.size; clear hrun hfine hb2 hB)
    | fail)
  have o2 : w2.cell? ⟨o, 2, none⟩ = some (.pointer (some ⟨c, 0, none⟩)) := one_block HRUN.out.self 2
  have HDROP := Lib.hid (drop8 B o a c fs m nf k cl ch w2 S _ s _ Hl Hh HRUN.out HFINE.out)
  go_upto_region 7 with (first
    | (go_at_call 28; refine (HDROP.out).mono ?_; rintro e w3 ⟨rfl, HR3, HBL3⟩)
    | fail)
  have hfine3 := HFINE.out.step (Do8.drop (F := filesOf l) (o := ⟨4, 0, 0, 0⟩) (s := s) rfl)
  have hr3 := HR3.out
  obtain ⟨s3, hs3⟩ : ∃ s3 : St8, s3 = ⟨dropTo s.p s.L [], [], s.clock, s.l, s.h⟩ := ⟨_, rfl⟩
  have hL3 : s3.L = [] := by rw [hs3]
  rw [← hs3] at hfine3 hr3
  have hcnt : ∀ f, f < nf → s3.p.cnt f = cntL s3.h f := fun f hf => by
    have h9 : s3.p.cnt f = slotN s3.L f + (cntL s3.h f + 0) := hfine3.even f (by rw [hfine3.size]; exact hf)
    rw [hL3] at h9
    have e0 : slotN [] f = 0 := rfl
    omega
  have p0 : w3.cell? ⟨o, 0, none⟩ = some (.pointer (some ⟨a, 0, none⟩)) := one_block hr3.self 0
  have p2 : w3.cell? ⟨o, 2, none⟩ = some (.pointer (some ⟨c, 0, none⟩)) := one_block hr3.self 2
  have HSIZE := Lib.hid (size8 B o a c fs m nf (k + 1) cl ch w3 S _ s3 _ Hl Hh hr3 hfine3)
  have hcount : ∀ f : Nat, f < nf → Calls Tryd.prog 30 #[.pointer (some ⟨a, 0, none⟩), .int .i64 (f : Int)] w3 fun e w' => e = .returned (.int .i64 (cntL s3.h f : Int)) ∧ w3 = w' := fun f hf => by
    have h9 := count8 B o a c fs m nf (k + 1) cl ch f w3 S _ s3 _ Hl Hh hr3 hfine3 hf
    rw [hcnt f hf] at h9
    exact h9
  have HCOUNT := Lib.hid hcount
  have HHELD := Lib.hid (fun f => held8_any B o a c fs m cl ch f w3 S _ s3 Hl Hh hr3 (by have := hfine3.few; omega))
  have hsl := slots8 B o a c fs m nf (k + 1) cl ch w3 S _ s3 _ Hl Hh hr3 hfine3 (by omega) HLF.out
  rw [hL3] at hsl
  have HSL := Lib.hid hsl
  have HALL := Lib.hid (HB2.out.trans (HBL3.out.mono hBw))
  have hz3 := HALL.out.size
  clear hs3 hfine3 hr3 hL3 hcnt hcount hsl o2
  go_wp2_with fail
  go_loopw [6] (fun i wr => ∃ f : Nat, i = .int .i64 (f : Int) ∧ f ≤ nf ∧ wr = w3) (fun i _ => nf - (intOf i).toNat)
  case atStart => exact ⟨0, rfl, Nat.zero_le _, rfl⟩
  case round =>
    obtain ⟨f, rfl, hf, rfl⟩ := hrel
    by_cases hlt : f < nf
    · go_wp2_with (first
        | (go_at_call 29; refine (HSIZE.out).mono ?_; rintro e w4 ⟨rfl, rfl⟩)
        | (go_at_call 30; refine (HCOUNT.out f hlt).mono ?_; rintro e w4 ⟨rfl, rfl⟩)
        | (go_at_call 50; refine (HHELD.out f).mono ?_; rintro e w4 ⟨rfl, rfl⟩)
        | fail)
      go_roundw
      case rel => exact ⟨f + 1, by go_num, by omega, trivial⟩
      case measure => (simp [intOf]; omega)
    · obtain rfl : f = nf := by omega
      go_wp2_with (first
        | (go_at_call 29; refine (HSIZE.out).mono ?_; rintro e w4 ⟨rfl, rfl⟩)
        | (go_at_call 40; refine (HSL.out).mono ?_; rintro e w5 ⟨A5, cap5, L5, rfl, hO5, hp5, hr5, hb5⟩; obtain rfl := List.perm_nil.1 hp5; have HB5 := Lib.hid (HALL.out.trans (hb5.mono hz3)); clear hO5 hp5 hr5 hb5)
        | (go_at_call 43; refine (HWK.out _ HB5.out).mono ?_; rintro e w7 ⟨rfl, hb7⟩)
        | fail)
      go_ret
      exact ⟨rfl, HB5.out.trans (hb7.mono HB5.out.size)⟩

end Go.Proofs.YtmkgdgfbdmjeeaaDoor
