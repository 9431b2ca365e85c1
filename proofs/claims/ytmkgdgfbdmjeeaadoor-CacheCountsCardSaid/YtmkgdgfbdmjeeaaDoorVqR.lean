/- CacheCounts, its walk. -/
import Derived.Test.YtmkgdgfbdmjeeaaDoorVqP
import Derived.Lib.QuietBelow
namespace Go.Proofs.YtmkgdgfbdmjeeaaDoor
open Go.RowKit Go.Sort
set_option linter.unusedSimpArgs false
set_option linter.unusedVariables false

set_option maxRecDepth 100000 in
set_option maxHeartbeats 4000000 in
theorem counts8_any (P A : Option Addr) (n cap k cap2 : Nat) (N : Int) (w : World) (hF : ArgF8 w P n cap) (hO : ArgO8 w A k cap2) (hdb : DB w) (hw0 : 0 < w.heap.size) :
    Calls Tryd.prog 10 #[.agg #[.slice P n cap, .int .i64 N], .slice A k cap2] w (LawPost8 w) := by
  obtain ⟨w0, hw0'⟩ : ∃ w0, w0 = w.alloc (.cells #[.slice P n cap, .int .i64 N] 85) := ⟨_, rfl⟩
  have hb0 : Below w.heap.size w w0 := (by rw [hw0']; exact (Below.refl _ _).alloc (Nat.le_refl _) _)
  have hX0 : Box8 w0 w.heap.size P n cap N := (by rw [hw0']; exact box8_new w P n cap N)
  have hz0 := hb0.size
  have x0 := hX0.c0
  have x1 := hX0.c1
  have hlt0 := hX0.lt
  have HWK := Lib.hid (fun W (hW : Below w.heap.size w W) => works8_any W (hdb.same (hW.block 0 hw0)) (Nat.lt_of_lt_of_le hw0 hW.size))
  have HDB := Lib.hid hdb
  have HW0 := Lib.hid hw0'
  have HB0 := Lib.hid hb0
  have HX0 := Lib.hid hX0
  clear hdb hw0' hb0 hX0
  rcases huge_or8 k N hF with hv | ⟨l, hv⟩
  · have HV := Lib.hid (vast_huge (Q := A) cap cap2 (hv.below HB0.out))
    clear hv hF hO
    go_enter Tryd.func10, Tryd.ntmps10
    go_upto_region 1 with (fail)
    rw [← HW0.out]
    go_wp2_with (first
      | (go_at_call 44; refine (HV.out).mono ?_; rintro e w1 ⟨rfl, hb1⟩; have HB1 := Lib.hid (HB0.out.trans (hb1.mono hz0)); clear hb1)
      | (go_at_call 43; refine (HWK.out _ HB1.out).mono ?_; rintro e w2 ⟨rfl, hb2⟩)
      | fail)
    go_ret
    exact ⟨rfl, HB1.out.trans (hb2.mono HB1.out.size)⟩
  have hk := hv.few
  have HN64 := Lib.hid hv.frames
  have HV := Lib.hid (vast_plain (Q := A) cap cap2 (hv.below HB0.out))
  have HPL := Lib.hid (hv.below HB0.out)
  clear hv hF
  by_cases hbad : (newM [rootNd] 0 l).1 ≠ 0 ∨ N < 1
  · have HBAD := Lib.hid hbad
    clear hbad hO
    go_enter Tryd.func10, Tryd.ntmps10
    go_upto_region 1 with (fail)
    rw [← HW0.out]
    go_wp2_with (first
      | (go_at_call 44; refine (HV.out).mono ?_; rintro e w1 ⟨rfl, hb1⟩; have HX1 := Lib.hid (HX0.out.below hb1 hlt0); have y0 := HX1.out.c0; have y1 := HX1.out.c1; have HIN1 := Lib.hid ((HPL.out.below hb1).ins); have HB1 := Lib.hid (HB0.out.trans (hb1.mono hz0)); have hz1 := HB1.out.size; clear hb1)
      | (go_at_call 45; refine (made8_bad P none n cap 0 0 N l _ HIN1.out HN64.out HBAD.out (HDB.out.same (HB1.out.block 0 hw0)) (by omega)).mono ?_; rintro e w2 ⟨rfl, hb2⟩; have HB2 := Lib.hid (HB1.out.trans (hb2.mono hz1)); clear hb2)
      | (go_at_call 43; refine (HWK.out _ HB2.out).mono ?_; rintro e w3 ⟨rfl, hb3⟩)
      | fail)
    go_ret
    exact ⟨rfl, HB2.out.trans (hb3.mono HB2.out.size)⟩
  obtain ⟨nf, rfl⟩ : ∃ nf : Nat, N = (nf : Int) := ⟨N.toNat, by omega⟩
  have hn1 : 1 ≤ nf := by omega
  have hn64 : nf ≤ 64 := by have := HN64.out; omega
  have HGOOD := Lib.hid (show (newM [rootNd] 0 l).1 = 0 from Classical.byContradiction fun h => hbad (.inl h))
  obtain ⟨ops, hops⟩ := hO.2 (by omega)
  have HOPS := Lib.hid hops
  have HLF := Lib.hid (filesOf_len (by have := HPL.out.ins.few; have := HPL.out.ins.len; omega : l.length ≤ 64))
  have HBY := Lib.hid (filesOf_bytes HPL.out.ins.ents.bytes)
  clear hbad hO hops HN64
  go_enter Tryd.func10, Tryd.ntmps10
  go_upto_region 1 with (fail)
  rw [← HW0.out]
  go_upto_region 6 with (first
    | (go_at_call 44; refine (HV.out).mono ?_; rintro e w1 ⟨rfl, hb1⟩; have HX1 := Lib.hid (HX0.out.below hb1 hlt0); have y0 := HX1.out.c0; have y1 := HX1.out.c1; have HIN1 := Lib.hid ((HPL.out.below hb1).ins); have HB1 := Lib.hid (HB0.out.trans (hb1.mono hz0)); have hz1 := HB1.out.size; clear hb1)
    | (go_at_call 45; refine (made8_any P none n cap 0 0 nf l [] _ HIN1.out hn1 hn64 HGOOD.out (OSl8.nil _ _) (by omega) (HDB.out.same (HB1.out.block 0 hw0)) (by omega)).mono ?_; rintro e w2 ⟨B, o, a, c, fs, m, S, s, Hl, cl, Hh, ch, rfl, hrun, hfine, hb2, hB⟩; have HRUN := Lib.hid hrun; have HFINE := Lib.hid hfine; have HB2 := Lib.hid (HB1.out.trans (hb2.mono hz1)); have hBw : w.heap.size ≤ B := (by omega); have hz2 := HB2.out.size; clear hrun hfine hb2 hB)
    | fail)
  go_wp2_with fail
  go_loopw [6] (fun i wr => ∃ (j : Nat) (S : Nat → Prop) (s : St8) (Hl : Option Addr) (cl : Nat) (Hh : Option Addr) (ch : Nat), i = .int .i64 (j : Int) ∧ j ≤ k ∧ Run8 wr B o a c fs m S (filesOf l) s Hl cl Hh ch ∧ s.Fine (filesOf l) (fun _ => 0) nf j ∧ Below w.heap.size w wr) (fun i _ => k - (intOf i).toNat)
  case atStart => exact ⟨0, S, s, Hl, cl, Hh, ch, rfl, Nat.zero_le _, HRUN.out, HFINE.out, HB2.out⟩
  case round =>
    clear HRUN HFINE S s Hl cl Hh ch
    obtain ⟨j, S, s, Hl, cl, Hh, ch, rfl, hj, hrun, hfine, hbel⟩ := hrel
    have HR8 := Lib.hid hrun
    have HBE := Lib.hid hbel
    have HFI := Lib.hid hfine
    clear hrun hbel hfine
    by_cases hlt : j < k
    rotate_left
    · obtain rfl : j = k := by omega
      go_wp2_with (first
        | (go_at_call 43; refine (HWK.out _ HBE.out).mono ?_; rintro e w7 ⟨rfl, hb7⟩)
        | fail)
      go_ret
      exact ⟨rfl, HBE.out.trans (hb7.mono HBE.out.size)⟩
    obtain ⟨x, hx⟩ : ∃ x, ops[j]? = some x := ⟨ops[j]'(by rw [HOPS.out.len]; exact hlt), List.getElem?_eq_getElem _⟩
    obtain ⟨b, off, rfl, hbw, hat⟩ := HOPS.out.at_ j x hx
    have hok := HOPS.out.ok x (List.mem_of_getElem? hx)
    have hat2 := hat.below HBE.out hbw
    obtain ⟨c0, c1, c2, c3⟩ := hat2
    have hdo := does8_any B o a c fs m nf j cl ch x wr S _ s _ Hl Hh HR8.out HFI.out (by omega) HBY.out (fun _ => Nat.zero_le _) hok
    obtain ⟨K, ino, page, N⟩ := x
    simp only at c0 c1 c2 c3
    have hdo' : Calls Tryd.prog 48 #[.pointer (some ⟨o, 0, none⟩), .agg #[.int .i64 K, .int .i64 ino, .int .i64 page, .int .i64 N]] wr (Does8Post wr B o a c fs m (filesOf l) ⟨K, ino, page, N⟩ s) := hdo
    have HDO := Lib.hid hdo'
    clear hat hx hok hdo hdo'
    go_upto_region 10 with (first
      | (go_at_call 48; refine (HDO.out).mono ?_; rintro e w5 ⟨rfl, ⟨s', S', Hl', cl', Hh', ch', hrun2, hres⟩, hb2⟩; have HR5 := Lib.hid hrun2; have HB5 := Lib.hid (HBE.out.trans (hb2.mono hBw)); have HF5 := Lib.hid (HFI.out.step hres); clear hrun2 hb2 hres)
      | fail)
    have o2 : w5.cell? ⟨o, 2, none⟩ = some (.pointer (some ⟨c, 0, none⟩)) := one_block HR5.out.self 2
    have HSL := Lib.hid (slots8 B o a c fs m nf (j + 1) cl' ch' w5 S' _ s' _ Hl' Hh' HR5.out HF5.out (by omega) HLF.out)
    clear c0 c1 c2 c3
    go_upto_region 11 with (first
      | (go_at_call 40; refine (HSL.out).mono ?_; rintro e w6 ⟨A6, cap6, L6, rfl, hO6, hp6, hr6, hb6⟩)
      | fail)
    have hr6' := HR5.out.below hb6
    have p0 : w6.cell? ⟨o, 0, none⟩ = some (.pointer (some ⟨a, 0, none⟩)) := one_block hr6'.self 0
    have HSIZE := Lib.hid (size8 B o a c fs m nf (j + 1) cl' ch' w6 S' _ s' _ Hl' Hh' hr6' HF5.out)
    have hcount : ∀ f : Nat, f < nf → Calls Tryd.prog 30 #[.pointer (some ⟨a, 0, none⟩), .int .i64 (f : Int)] w6 fun e w' => e = .returned (.int .i64 ((cntL s'.h f + slotN L6 f : Nat) : Int)) ∧ w6 = w' := fun f hf => by
      have h9 := count8 B o a c fs m nf (j + 1) cl' ch' f w6 S' _ s' _ Hl' Hh' hr6' HF5.out hf
      have h8 : s'.p.cnt f = slotN s'.L f + (cntL s'.h f + 0) := HF5.out.even f (by rw [HF5.out.size]; exact hf)
      rw [h8, ← slotN_perm hp6 f, show slotN L6 f + (cntL s'.h f + 0) = cntL s'.h f + slotN L6 f by omega] at h9
      exact h9
    have HCOUNT := Lib.hid hcount
    have HHELD := Lib.hid (fun f => held8_any B o a c fs m cl' ch' f w6 S' _ s' Hl' Hh' hr6' (by have := HF5.out.few; omega))
    have HB6 := Lib.hid (HB5.out.trans (hb6.mono HB5.out.size))
    have hL6 : L6.length ≤ 1000 := by have := hp6.length_eq; have := HF5.out.few; omega
    have hcl : ∀ f, cntL s'.h f ≤ 1000 := fun f => by have := cntL_le s'.h f; have := HF5.out.few; omega
    have HO6 := Lib.hid hO6
    have HRI := Lib.hid hr6
    have HR6 := Lib.hid hr6'
    have HCL := Lib.hid hcl
    obtain ⟨H6, hH6⟩ : ∃ H6, H6 = s'.h := ⟨_, rfl⟩
    rw [← hH6] at HCOUNT HHELD HCL
    clear hr6' hcount hO6 hp6 hr6 hb6 hcl o2 hH6
    go_wp2_with fail
    go_loopw [8] (fun i wx => ∃ f : Nat, i = .int .i64 (f : Int) ∧ f ≤ nf ∧ w6 = wx) (fun i _ => nf - (intOf i).toNat)
    case atStart => exact ⟨0, rfl, Nat.zero_le _, rfl⟩
    case round =>
      obtain ⟨f, rfl, hf, rfl⟩ := hrel
      by_cases hlf : f < nf
      · go_wp2_with (first
          | (go_at_call 29; refine (HSIZE.out).mono ?_; rintro e w7 ⟨rfl, rfl⟩)
          | (go_at_call 50; refine (HHELD.out f).mono ?_; rintro e w7 ⟨rfl, rfl⟩)
          | fail)
        go_loopw [9, 10] (fun v i wy => ∃ q : Nat, v = .int .i64 ((cntL H6 f + slotN (L6.take q) f : Nat) : Int) ∧ i = .int .i64 (q : Int) ∧ q ≤ L6.length ∧ w6 = wy) (fun _ i _ => L6.length - (intOf i).toNat)
        case atStart => exact ⟨0, rfl, rfl, Nat.zero_le _, rfl⟩
        case round =>
          obtain ⟨q, rfl, rfl, hq, rfl⟩ := hrel
          by_cases hql : q < L6.length
          · obtain ⟨x, hx⟩ : ∃ x, L6[q]? = some x := ⟨L6[q], List.getElem?_eq_getElem hql⟩
            have hcs := slotN_take_succ (f := f) hx
            rcases HO6.out.form with ⟨_, h2, _⟩ | ⟨g, cur, hg1, _, hg2, hg3, _⟩
            · rw [h2] at hql; exact absurd hql (Nat.not_lt_zero _)
            subst hg1
            have hcell := HO6.out.cell (k := q) (j := 2) (by omega) hx
            have hcell' : w6.cell? ⟨g, q * 3 + 2, none⟩ = some (.int .i64 (x.frame : Int)) := hcell
            have hcb : slotN (L6.take q) f ≤ 1000 := Nat.le_trans (slotN_le _ _) (by rw [List.length_take]; omega)
            have hcl := HCL.out f
            have hqc : q < cap6 := by omega
            have HCS := Lib.hid hcs
            clear hcs hx hcell
            by_cases e : x.frame = f
            · have he : ((x.frame : Int) == (f : Int)) = true := by rw [beq_iff_eq, e]
              have HE := Lib.hid e
              clear e
              go_wp2_with fail
              go_roundw
              case rel => exact ⟨q + 1, by rw [HCS.out, if_pos HE.out]; go_num, by go_num, by omega, trivial⟩
              case measure => (simp [intOf]; omega)
            · have he : ((x.frame : Int) == (f : Int)) = false := by rw [beq_eq_false_iff_ne]; omega
              have HE := Lib.hid e
              clear e
              go_wp2_with fail
              go_roundw
              case rel => exact ⟨q + 1, by rw [HCS.out, if_neg HE.out]; rfl, by go_num, by omega, trivial⟩
              case measure => (simp [intOf]; omega)
          · obtain rfl : q = L6.length := by omega
            go_wp2_with (first
              | (go_at_call 30; refine (HCOUNT.out f hlf).mono ?_; rintro e w7 ⟨rfl, rfl⟩)
              | fail)
            go_roundw
            case rel => exact ⟨f + 1, by go_num, by omega, trivial⟩
            case measure => (simp [intOf]; omega)
      · obtain rfl : f = nf := by omega
        go_wp2_with (first
          | (go_at_call 29; refine (HSIZE.out).mono ?_; rintro e w7 ⟨rfl, rfl⟩)
          | fail)
        go_loopw [11] (fun i wy => ∃ q : Nat, i = .int .i64 (q : Int) ∧ 1 ≤ q ∧ (q ≤ L6.length ∨ q = 1) ∧ Below w6.heap.size w6 wy) (fun i _ => L6.length - (intOf i).toNat)
        case atStart => exact ⟨1, rfl, by omega, .inr rfl, Below.refl _ _⟩
        case round =>
          obtain ⟨q, rfl, hq1, hq2, hb7⟩ := hrel
          by_cases hql : q < L6.length
          · obtain ⟨r, rfl⟩ : ∃ r, q = r + 1 := ⟨q - 1, by omega⟩
            obtain ⟨x, hx⟩ : ∃ x, L6[r]? = some x := ⟨L6[r], List.getElem?_eq_getElem (by omega)⟩
            obtain ⟨y, hy⟩ : ∃ y, L6[r + 1]? = some y := ⟨L6[r + 1], List.getElem?_eq_getElem hql⟩
            have hnext := HRI.out.next hx hy
            rcases HO6.out.form with ⟨_, h2, _⟩ | ⟨g, cur, hg1, _, hg2, hg3, _⟩
            · rw [h2] at hql; exact absurd hql (Nat.not_lt_zero _)
            subst hg1
            have x0 : w6.cell? ⟨g, r * 3, none⟩ = some (.int .i64 x.ino) := HO6.out.cell (k := r) (j := 0) (by omega) hx
            have x1 : w6.cell? ⟨g, r * 3 + 1, none⟩ = some (.int .i64 x.page) := HO6.out.cell (k := r) (j := 1) (by omega) hx
            have y0 : w6.cell? ⟨g, (r + 1) * 3, none⟩ = some (.int .i64 y.ino) := HO6.out.cell (k := r + 1) (j := 0) (by omega) hy
            have y1 : w6.cell? ⟨g, (r + 1) * 3 + 1, none⟩ = some (.int .i64 y.page) := HO6.out.cell (k := r + 1) (j := 1) (by omega) hy
            have d0 : ∀ d os, (grow (redrawn wr d) os).cell? ⟨g, r * 3, none⟩ = some (.int .i64 x.ino) := fun d os => cell_regrown ((hb7.cell (p := ⟨g, r * 3, none⟩) hg2).trans x0) d os
            have d1 : ∀ d os, (grow (redrawn wr d) os).cell? ⟨g, r * 3 + 1, none⟩ = some (.int .i64 x.page) := fun d os => cell_regrown ((hb7.cell (p := ⟨g, r * 3 + 1, none⟩) hg2).trans x1) d os
            have d2 : ∀ d os, (grow (redrawn wr d) os).cell? ⟨g, (r + 1) * 3, none⟩ = some (.int .i64 y.ino) := fun d os => cell_regrown ((hb7.cell (p := ⟨g, (r + 1) * 3, none⟩) hg2).trans y0) d os
            have d3 : ∀ d os, (grow (redrawn wr d) os).cell? ⟨g, (r + 1) * 3 + 1, none⟩ = some (.int .i64 y.page) := fun d os => cell_regrown ((hb7.cell (p := ⟨g, (r + 1) * 3 + 1, none⟩) hg2).trans y1) d os
            obtain ⟨xi, hxi⟩ : ∃ xi, xi = x.ino := ⟨_, rfl⟩
            obtain ⟨xp, hxp⟩ : ∃ xp, xp = x.page := ⟨_, rfl⟩
            obtain ⟨yi, hyi⟩ : ∃ yi, yi = y.ino := ⟨_, rfl⟩
            obtain ⟨yp, hyp⟩ : ∃ yp, yp = y.page := ⟨_, rfl⟩
            rw [← hxi] at d0 hnext
            rw [← hxp] at d1 hnext
            rw [← hyi] at d2 hnext
            rw [← hyp] at d3 hnext
            have hcap : r + 1 < cap6 := by omega
            have hwz : IntKind.i64.wrap ((r : Int) + 1 - 1) = (r : Int) := by rw [IntKind.wrap_i64]; omega
            have HB7 := Lib.hid hb7
            clear hx hy x0 x1 y0 y1 hxi hxp hyi hyp hb7
            rcases hnext with h1 | ⟨rfl, h1⟩
            · have b1 : decide (xi < yi) = true := decide_eq_true h1
              go_upto_region 25 with (fail)
              refine wp_region_quiet_below (by kernel_rfl) (by kernel_rfl) ?_; (repeat (go_big_quiet_step ((fail)))); refine wpQuiet_nil ?_; intro _ hw'; obtain ⟨⟨dq, osq⟩, hw''⟩ := hw'; subst hw''; have hbq := below_regrown (wr) dq osq; generalize grow (redrawn (wr) dq) osq = wq at hbq ⊢
              have HB8 := Lib.hid (HB7.out.trans (hbq.mono HB7.out.size))
              clear d0 d1 d2 d3 hbq
              go_wp2_with fail
              go_roundw
              case rel => exact ⟨r + 1 + 1, by go_num, by omega, .inl (by omega), HB8.out⟩
              case measure => (simp [intOf]; omega)
            · have b1 : decide (xi < xi) = false := decide_eq_false (by omega)
              have b2 : (xi == xi) = true := by simp
              have b3 : decide (xp < yp) = true := decide_eq_true h1
              go_upto_region 25 with (fail)
              refine wp_region_quiet_below (by kernel_rfl) (by kernel_rfl) ?_; (repeat (go_big_quiet_step ((fail)))); refine wpQuiet_nil ?_; intro _ hw'; obtain ⟨⟨dq, osq⟩, hw''⟩ := hw'; subst hw''; have hbq := below_regrown (wr) dq osq; generalize grow (redrawn (wr) dq) osq = wq at hbq ⊢
              have HB8 := Lib.hid (HB7.out.trans (hbq.mono HB7.out.size))
              clear d0 d1 d2 d3 hbq
              go_wp2_with fail
              go_roundw
              case rel => exact ⟨r + 1 + 1, by go_num, by omega, .inl (by omega), HB8.out⟩
              case measure => (simp [intOf]; omega)
          · go_wp2_with fail
            go_roundw
            case rel => exact ⟨j + 1, S', s', Hl', cl', Hh', ch', by go_num, by omega, HR6.out.below hb7, HF5.out, HB6.out.trans (hb7.mono HB6.out.size)⟩
            case measure => (simp [intOf]; omega)

end Go.Proofs.YtmkgdgfbdmjeeaaDoor
