/- TableCounts, its walk (seat .ZD). -/
import Derived.Test.YtmkgdgfbdmjeeaaGreatDoorLwP
namespace Go.Proofs.YtmkgdgfbdmjeeaaGreatDoor
open Go.RowKit Go.Sort
set_option linter.unusedSimpArgs false
set_option linter.unusedVariables false

theorem take_cntP {l : List (Nat × Leaf)} {q : Nat} {y : Nat × Leaf} (h : l[q]? = some y) (f : Nat) : (l.take (q + 1)).countP (fun z => z.2.frame == f) = (l.take q).countP (fun z => z.2.frame == f) + if y.2.frame = f then 1 else 0 := by
  rw [take_snoc h, List.countP_append, List.countP_singleton]
  simp
theorem take_cntN {l : List Nat} {q y : Nat} (h : l[q]? = some y) (f : Nat) : (l.take (q + 1)).count f = (l.take q).count f + if y = f then 1 else 0 := by
  rw [take_snoc h, List.count_append, List.count_singleton]
  by_cases e : y = f
  · subst e; simp
  · simp [e]
theorem take_cntS {l : List Slot} {q : Nat} {y : Slot} (h : l[q]? = some y) (f : Nat) : slotN (l.take (q + 1)) f = slotN (l.take q) f + if y.frame = f then 1 else 0 := by
  unfold slotN
  rw [take_snoc h, List.countP_append, List.countP_singleton]
  simp
/-- One more at a frame. -/
theorem upd_more {c d : Nat → Nat} {y : Nat} (h : ∀ f, d f = c f + if y = f then 1 else 0) : upd c y (c y + 1) = d := by
  funext f
  by_cases e : f = y
  · subst e; rw [upd_same, h, if_pos rfl]
  · rw [upd_ne _ _ e, h, if_neg (fun e1 => e e1.symm)]; rfl

set_option maxRecDepth 100000 in
set_option maxHeartbeats 8000000 in
theorem tableCounts_any (n : Int) (A : Option Addr) (len cap : Nat) (w : World) (hA : ArgO w A len cap) (hdb : DB w) (hw0 : 0 < w.heap.size) :
    Calls Tryz.prog 5 #[.int .i64 n, .slice A len cap] w (LawPost w) := by
  obtain ⟨hlen0, hl⟩ := hA
  have HWK := Lib.hid (fun W (hW : Below w.heap.size w W) => works_any W (hdb.same (hW.block 0 hw0)) (Nat.lt_of_lt_of_le hw0 hW.size))
  have HDB := Lib.hid hdb
  clear hdb
  by_cases hv : 96 < n ∨ (120 : Int) < (len : Int)
  · have HV := Lib.hid (fun W => vast_yes n A len cap W hv)
    clear hv
    go_enter Tryz.func5, Tryz.ntmps5
    go_wp2_with (first
      | (go_at_call 7; refine (HV.out _).mono ?_; rintro e w1 ⟨rfl, rfl⟩)
      | (go_at_call 8; refine (HWK.out _ (Below.refl _ _)).mono ?_; rintro e w2 ⟨rfl, hb2⟩)
      | fail)
    go_ret
    exact ⟨rfl, hb2⟩
  have hn96 : n ≤ 96 := by omega
  have hk120 : (len : Int) ≤ 120 := by omega
  have HV := Lib.hid (fun W => vast_no n A len cap W hn96 hk120)
  clear hv
  by_cases hn1 : n < 1
  · have HMB := Lib.hid (made_bad n w hn1 (by omega))
    clear hn1
    go_enter Tryz.func5, Tryz.ntmps5
    go_wp2_with (first
      | (go_at_call 7; refine (HV.out _).mono ?_; rintro e w1 ⟨rfl, rfl⟩)
      | (go_at_call 9; refine (HMB.out).mono ?_; rintro e w1 ⟨rfl, hb1⟩)
      | (go_at_call 8; refine (HWK.out _ hb1).mono ?_; rintro e w2 ⟨rfl, hb2⟩)
      | fail)
    go_ret
    exact ⟨rfl, hb1.trans (hb2.mono hb1.size)⟩
  obtain ⟨l, hsl⟩ := hl (by omega)
  obtain ⟨n, rfl⟩ : ∃ m : Nat, n = (m : Int) := ⟨n.toNat, by omega⟩
  have HMADE := Lib.hid (made_any n w (by omega) (by omega) HDB.out (by omega))
  have HL := Lib.hid hsl
  have hnn : n ≤ 96 := by omega
  have hmk := fun W => make_ints9 n (by omega) W
  clear hsl hl
  go_enter Tryz.func5, Tryz.ntmps5
  go_upto_region 6 with (first
    | (go_at_call 7; refine (HV.out _).mono ?_; rintro e w1 ⟨rfl, rfl⟩)
    | (go_at_call 9; refine (HMADE.out).mono ?_; rintro e w1 ⟨B, o, a, c, fs, m, t, S, rfl, hown, hb1, hB, hfl⟩)
    | fail)
  have HSOME := Lib.hid (show Some9 w1 B o a c fs m t n 0 from .inl ⟨S, _, none, 0, made_run hown hfl, start_fine (by omega) (by omega)⟩)
  have HB1 := Lib.hid hb1
  clear hown hfl hb1 HMADE
  go_wp2_with fail
  go_loopw [7] (fun i wr => ∃ j : Nat, i = .int .i64 (j : Int) ∧ j ≤ len ∧ Some9 wr B o a c fs m t n j ∧ Below w.heap.size w wr) (fun i _ => len - (intOf i).toNat)
  case atStart => exact ⟨0, rfl, Nat.zero_le _, HSOME.out, HB1.out⟩
  case round =>
    obtain ⟨j, rfl, hj, hsome, hbel⟩ := hrel
    have HS := Lib.hid hsome
    have HBE := Lib.hid hbel
    clear hsome hbel
    by_cases hlt : j < len
    rotate_left
    · obtain rfl : j = len := by omega
      go_wp2_with (first
        | (go_at_call 8; refine (HWK.out _ HBE.out).mono ?_; rintro e w2 ⟨rfl, hb2⟩)
        | fail)
      go_ret
      exact ⟨rfl, HBE.out.trans (hb2.mono HBE.out.size)⟩
    obtain ⟨x, hx⟩ : ∃ x, l[j]? = some x := ⟨l[j]'(by rw [HL.out.len]; exact hlt), List.getElem?_eq_getElem _⟩
    obtain ⟨b, off, rfl, hbw, hat⟩ := HL.out.at_ j x hx
    have hok := HL.out.ok x (List.mem_of_getElem? hx)
    have hat2 := hat.below HBE.out hbw
    obtain ⟨c0, c1, c2, c3, c4, c5⟩ := hat2
    have hdo := does9_some B o a c fs m t n j x wr HS.out (by omega) hok
    obtain ⟨K, AA, fr, q, cpy, N⟩ := x
    simp only at c0 c1 c2 c3 c4 c5
    have hdo' : Calls Tryz.prog 11 #[.pointer (some ⟨o, 0, none⟩), .agg #[.int .i64 K, .int .u64 AA, .int .i64 fr, .int .u8 q, .bool cpy, .int .i64 N]] wr (Some9Post wr B o a c fs m t n j) := hdo
    have HDO := Lib.hid hdo'
    clear hat hx hok hdo hdo'
    go_upto_region 10 with (first
      | (go_at_call 11; refine (HDO.out).mono ?_; rintro e w5 ⟨y, rfl, hs5, hb5⟩; have HS5 := Lib.hid hs5; have HB5 := Lib.hid (HBE.out.trans (hb5.mono hB)); clear hs5 hb5)
      | fail)
    obtain ⟨P, NN, L, H, hcap, h, hseen⟩ := HS5.out.seen (by omega) (by omega)
    have o0 : w5.cell? ⟨o, 0, none⟩ = some (.pointer (some ⟨a, 0, none⟩)) := one_block hseen.self 0
    have HSE := Lib.hid hseen
    have HSIZE := Lib.hid (hseen.size w5 (Below.refl _ _))
    clear c0 c1 c2 c3 c4 c5 hseen
    go_upto_region 11 with (first
      | (go_at_call 21; refine (HSIZE.out).mono ?_; rintro e w6 ⟨rfl, rfl⟩)
      | fail)
    obtain ⟨w6, hw6⟩ : ∃ w6, w6 = w5.alloc (.cells (rowV n fun _ => .int .i64 0) 3) := ⟨_, rfl⟩
    rw [← hw6]
    obtain ⟨g, hg⟩ : ∃ g, g = w5.heap.size := ⟨_, rfl⟩
    rw [← hg]
    have hb56 : Below w5.heap.size w5 w6 := by rw [hw6]; exact (Below.refl _ _).alloc (Nat.le_refl _) _
    have hrow6 : IntRow w6 g n (fun _ => 0) := by rw [hw6, hg]; exact heap_alloc_new w5 _
    have hg6 : g < w6.heap.size := (Array.getElem?_eq_some_iff.1 hrow6).1
    have hgs : w6.heap.size = g + 1 := by rw [hw6, hg]; simp
    have ho5 : o < w5.heap.size := (Array.getElem?_eq_some_iff.1 HSE.out.self).1
    have p2 : w6.cell? ⟨o, 2, none⟩ = some (.pointer (some ⟨t, 0, none⟩)) := (hb56.cell (p := ⟨o, 2, none⟩) ho5).trans (one_block HSE.out.self 2)
    have HALL := Lib.hid (HSE.out.all w6 hb56)
    have HROW6 := Lib.hid hrow6
    have HB56 := Lib.hid hb56
    have HG := Lib.hid hg
    clear hw6 hrow6 hb56 hg o0
    go_upto_region 12 with (first
      | (go_at_call 22; refine (HALL.out).mono ?_; rintro e w7 ⟨A7, cap7, rfl, hO7, hb67⟩)
      | fail)
    have hb57 : Below w5.heap.size w5 w7 := HB56.out.trans (hb67.mono (by have := HG.out; omega))
    have p3 : w7.cell? ⟨o, 2, none⟩ = some (.pointer (some ⟨t, 0, none⟩)) := (hb57.cell (p := ⟨o, 2, none⟩) ho5).trans (one_block HSE.out.self 2)
    have HNODES := Lib.hid (HSE.out.nodes w7 hb57)
    have HO7 := Lib.hid hO7
    have HB67 := Lib.hid hb67
    have HB57 := Lib.hid hb57
    have hz7 := hb67.size
    clear hO7 hb67 hb57 p2
    go_upto_region 13 with (first
      | (go_at_call 23; refine (HNODES.out).mono ?_; rintro e w8 ⟨A8, cap8, rfl, hO8, hb78⟩)
      | fail)
    have hb58 : Below w5.heap.size w5 w8 := HB57.out.trans (hb78.mono HB57.out.size)
    have p4 : w8.cell? ⟨o, 1, none⟩ = some (.pointer (some ⟨c, 0, none⟩)) := (hb58.cell (p := ⟨o, 1, none⟩) ho5).trans (one_block HSE.out.self 1)
    have HSLOTS := Lib.hid (HSE.out.slots w8 hb58)
    have HO8 := Lib.hid hO8
    have HB78 := Lib.hid hb78
    have HB58 := Lib.hid hb58
    have hz8 := hb78.size
    clear hO8 hb78 hb58 p3
    go_upto_region 14 with (first
      | (go_at_call 24; refine (HSLOTS.out).mono ?_; rintro e w9 ⟨A9, cap9, L9, rfl, hO9, hp9, _, hb89⟩)
      | fail)
    have hz9 := hb89.size
    have HB59 := Lib.hid (HB58.out.trans (hb89.mono HB58.out.size))
    have HP9 := Lib.hid (show OwnP w9 w6.heap.size A7 cap7 P from HO7.out.same fun x hx => by
      rcases HO7.out.form with ⟨e, _⟩ | ⟨g', e, _, hl, _⟩
      · rw [e] at hx; cases hx
      · rw [e] at hx; injection hx with hx; injection hx with hx; subst hx
        exact (hb89.block _ (by omega)).trans (HB78.out.block _ hl))
    have HN9 := Lib.hid (show OwnN w9 w7.heap.size A8 cap8 NN from HO8.out.same fun x hx => by
      rcases HO8.out.form with ⟨e, _⟩ | ⟨g', e, _, hl, _⟩
      · rw [e] at hx; cases hx
      · rw [e] at hx; injection hx with hx; injection hx with hx; subst hx
        exact hb89.block _ hl)
    have HQ9 := Lib.hid hO9
    have HROW9 := Lib.hid (show IntRow w9 g n (fun _ => 0) from (hb89.block g (by omega)).trans ((HB78.out.block g (by omega)).trans ((HB67.out.block g hg6).trans HROW6.out)))
    have HH9 := Lib.hid (show OwnN w9 B H hcap h from HSE.out.row.same fun x hx => by
      have := HSE.out.row.lt x hx
      exact HB59.out.block _ this.2)
    have hself9 := (HB59.out.block o ho5).trans HSE.out.self
    have HSELF := Lib.hid hself9
    have HCS := Lib.hid (show ∀ f, slotN L9 f = slotN L f from fun f => hp9.countP_eq _)
    have hlow9 : ∀ x ∈ L9, x.frame < n := fun x hx => HSE.out.lowL x (hp9.mem_iff.1 hx)
    have HLOW9 := Lib.hid hlow9
    have hlen9 := hp9.length_eq
    have hfew := HSE.out.few
    have hl9 : L9.length ≤ 1000000 := by omega
    have hgo : g ≠ o := by have := HG.out; omega
    have ho9 : o < w9.heap.size := by have := HB59.out.size; omega
    have hg9 : g < w9.heap.size := by omega
    have HZ9 := Lib.hid (show w6.heap.size = g + 1 ∧ w6.heap.size ≤ w7.heap.size ∧ w7.heap.size ≤ w8.heap.size ∧ w8.heap.size ≤ w9.heap.size from ⟨hgs, hz7, hz8, hz9⟩)
    clear hp9 hO9 hb89 hself9 hlow9 hlen9 p4
    go_wp2_with fail
    go_loopw [8, 12] (fun v i wx => ∃ q : Nat, v = .slice (some ⟨g, 0, none⟩) n n ∧ i = .int .i64 (q : Int) ∧ q ≤ P.length ∧ IntRow wx g n (fun f => (P.take q).countP (fun z => z.2.frame == f)) ∧ Mod (fun b => b = g) w9 wx) (fun _ i _ => P.length - (intOf i).toNat)
    case atStart => exact ⟨0, rfl, rfl, Nat.zero_le _, HROW9.out, Mod.refl _ _⟩
    case round =>
      obtain ⟨q, rfl, rfl, hq, hrow, hmod⟩ := hrel
      have HROW := Lib.hid hrow
      have HMOD := Lib.hid hmod
      clear hrow hmod
      by_cases hql : q < P.length
      · obtain ⟨y, hy⟩ : ∃ y, P[q]? = some y := ⟨P[q], List.getElem?_eq_getElem hql⟩
        have hyn := HSE.out.lowP y (List.mem_of_getElem? hy)
        rcases HP9.out.form with ⟨_, h2, _⟩ | ⟨g7, hg1, hg2, hg3, hg4⟩
        · rw [h2] at hql; exact absurd hql (Nat.not_lt_zero _)
        have hcell : wr.cell? ⟨g7, q * 4 + 1, none⟩ = some (.int .i64 (y.2.frame : Int)) := by
          have h9 := HP9.out
          rw [hg1] at h9
          have h8 : OwnP wr w6.heap.size (some ⟨g7, 0, none⟩) cap7 P := h9.same fun x hx => by
            injection hx with hx; injection hx with hx; subst hx
            exact HMOD.out.block _ hg3 (by have := HZ9.out; omega)
          exact (h8.elem hy).2.1
        have HM := Lib.hid (more_any g n y.2.frame _ wr HROW.out hyn (Nat.le_trans List.countP_le_length (by rw [List.length_take]; omega)))
        have HUP := Lib.hid (upd_more (fun f => take_cntP hy f))
        subst hg1
        have hqc : q < cap7 := by omega
        clear hy
        go_wp2_with (first
          | (go_at_call 25; refine (HM.out).mono ?_; rintro e wy ⟨rfl, hr2, hm2⟩; have HR2 := Lib.hid hr2; have HM2 := Lib.hid hm2; clear hr2 hm2)
          | fail)
        go_roundw
        case rel => exact ⟨q + 1, rfl, by go_num, by omega, HR2.out.congr fun f _ => congrFun HUP.out f, HMOD.out.trans (Out.refl _ _) HM2.out⟩
        case measure => (simp [intOf]; omega)
      · obtain rfl : q = P.length := by omega
        have HROWB := Lib.hid (show IntRow wr g n (fun f => P.countP (fun z => z.2.frame == f) + (NN.take 0).count f) from HROW.out.congr fun f _ => by rw [List.take_length]; simp)
        have HMODB := Lib.hid HMOD.out
        clear HROW HMOD
        go_wp2_with fail
        go_loopw [8, 13] (fun v i wx => ∃ q : Nat, v = .slice (some ⟨g, 0, none⟩) n n ∧ i = .int .i64 (q : Int) ∧ q ≤ NN.length ∧ IntRow wx g n (fun f => P.countP (fun z => z.2.frame == f) + (NN.take q).count f) ∧ Mod (fun b => b = g) w9 wx) (fun _ i _ => NN.length - (intOf i).toNat)
        case atStart => exact ⟨0, rfl, rfl, Nat.zero_le _, HROWB.out, HMODB.out⟩
        case round =>
          obtain ⟨q, rfl, rfl, hq, hrow, hmod⟩ := hrel
          have HROW := Lib.hid hrow
          have HMOD := Lib.hid hmod
          clear hrow hmod
          by_cases hql : q < NN.length
          · obtain ⟨y, hy⟩ : ∃ y, NN[q]? = some y := ⟨NN[q], List.getElem?_eq_getElem hql⟩
            have hyn := HSE.out.lowN y (List.mem_of_getElem? hy)
            rcases HN9.out.form with ⟨_, h2, _⟩ | ⟨g7, hg1, hg2, hg3, hg4⟩
            · rw [h2] at hql; exact absurd hql (Nat.not_lt_zero _)
            have hcell : wr.cell? ⟨g7, q, none⟩ = some (.int .i64 (y : Int)) := by
              have h9 := HN9.out
              rw [hg1] at h9
              have h8 : OwnN wr w7.heap.size (some ⟨g7, 0, none⟩) cap8 NN := h9.same fun x hx => by
                injection hx with hx; injection hx with hx; subst hx
                exact HMOD.out.block _ hg3 (by have := HZ9.out; omega)
              exact h8.elem hy
            have HM := Lib.hid (more_any g n y _ wr HROW.out hyn (Nat.le_trans (Nat.add_le_add List.countP_le_length List.count_le_length) (by rw [List.length_take]; omega)))
            have HUP := Lib.hid (upd_more (c := fun f => P.countP (fun z => z.2.frame == f) + (NN.take q).count f) (d := fun f => P.countP (fun z => z.2.frame == f) + (NN.take (q + 1)).count f) (y := y) (fun f => by show _ + _ = _ + _ + _; rw [take_cntN hy f]; omega))
            subst hg1
            have hqc : q < cap8 := by omega
            clear hy
            go_wp2_with (first
              | (go_at_call 25; refine (HM.out).mono ?_; rintro e wy ⟨rfl, hr2, hm2⟩; have HR2 := Lib.hid hr2; have HM2 := Lib.hid hm2; clear hr2 hm2)
              | fail)
            go_roundw
            case rel => exact ⟨q + 1, rfl, by go_num, by omega, HR2.out.congr fun f _ => congrFun HUP.out f, HMOD.out.trans (Out.refl _ _) HM2.out⟩
            case measure => (simp [intOf]; omega)
          · obtain rfl : q = NN.length := by omega
            have HROWC := Lib.hid (show IntRow wr g n (fun f => P.countP (fun z => z.2.frame == f) + NN.count f + slotN (L9.take 0) f) from HROW.out.congr fun f _ => by rw [List.take_length]; rfl)
            have HMODC := Lib.hid HMOD.out
            clear HROW HMOD HROWB HMODB
            go_wp2_with fail
            go_loopw [8, 14] (fun v i wx => ∃ q : Nat, v = .slice (some ⟨g, 0, none⟩) n n ∧ i = .int .i64 (q : Int) ∧ q ≤ L9.length ∧ IntRow wx g n (fun f => P.countP (fun z => z.2.frame == f) + NN.count f + slotN (L9.take q) f) ∧ Mod (fun b => b = g) w9 wx) (fun _ i _ => L9.length - (intOf i).toNat)
            case atStart => exact ⟨0, rfl, rfl, Nat.zero_le _, HROWC.out, HMODC.out⟩
            case round =>
              obtain ⟨q, rfl, rfl, hq, hrow, hmod⟩ := hrel
              have HROW := Lib.hid hrow
              have HMOD := Lib.hid hmod
              clear hrow hmod
              by_cases hql : q < L9.length
              · obtain ⟨y, hy⟩ : ∃ y, L9[q]? = some y := ⟨L9[q], List.getElem?_eq_getElem hql⟩
                have hyn := HLOW9.out y (List.mem_of_getElem? hy)
                rcases HQ9.out.form with ⟨_, h2, _⟩ | ⟨g7, cur, hg1, hg2, hg3, hg4, hg5, _⟩
                · rw [h2] at hql; exact absurd hql (Nat.not_lt_zero _)
                have hcell : wr.cell? ⟨g7, q * 3 + 2, none⟩ = some (.int .i64 (y.frame : Int)) := by
                  have h9 := HQ9.out
                  rw [hg1] at h9
                  have h8 : w9.cell? ⟨g7, q * 3 + 2, none⟩ = some (.int .i64 (y.frame : Int)) := h9.cell (k := q) (j := 2) (by omega) hy
                  have h7 := HMOD.out.block g7 hg3 (by have := HZ9.out; omega)
                  rw [← h8]
                  simp only [World.cell?, h7]
                have HM := Lib.hid (more_any g n y.frame _ wr HROW.out hyn (Nat.le_trans (Nat.add_le_add (Nat.add_le_add List.countP_le_length List.count_le_length) (show slotN _ _ ≤ _ from List.countP_le_length)) (by rw [List.length_take]; omega)))
                have HUP := Lib.hid (upd_more (c := fun f => P.countP (fun z => z.2.frame == f) + NN.count f + slotN (L9.take q) f) (d := fun f => P.countP (fun z => z.2.frame == f) + NN.count f + slotN (L9.take (q + 1)) f) (y := y.frame) (fun f => by show _ + _ = _ + _ + _; rw [take_cntS hy f]; omega))
                subst hg1
                have hqc : q < cap9 := by omega
                clear hy
                go_wp2_with (first
                  | (go_at_call 25; refine (HM.out).mono ?_; rintro e wy ⟨rfl, hr2, hm2⟩; have HR2 := Lib.hid hr2; have HM2 := Lib.hid hm2; clear hr2 hm2)
                  | fail)
                go_roundw
                case rel => exact ⟨q + 1, rfl, by go_num, by omega, HR2.out.congr fun f _ => congrFun HUP.out f, HMOD.out.trans (Out.refl _ _) HM2.out⟩
                case measure => (simp [intOf]; omega)
              · obtain rfl : q = L9.length := by omega
                have HROWD := Lib.hid (show IntRow wr g n (fun f => P.countP (fun z => z.2.frame == f) + NN.count f + slotN L f + (h.take 0).count f) from HROW.out.congr fun f _ => by rw [List.take_length, HCS.out]; simp)
                have HMODD := Lib.hid HMOD.out
                clear HROW HMOD HROWC HMODC
                go_wp2_with fail
                go_loopw [8, 15] (fun v i wx => ∃ q : Nat, v = .slice (some ⟨g, 0, none⟩) n n ∧ i = .int .i64 (q : Int) ∧ q ≤ h.length ∧ IntRow wx g n (fun f => P.countP (fun z => z.2.frame == f) + NN.count f + slotN L f + (h.take q).count f) ∧ Mod (fun b => b = g) w9 wx) (fun _ i _ => h.length - (intOf i).toNat)
                case atStart => exact ⟨0, rfl, rfl, Nat.zero_le _, HROWD.out, HMODD.out⟩
                case round =>
                  obtain ⟨q, rfl, rfl, hq, hrow, hmod⟩ := hrel
                  have HROW := Lib.hid hrow
                  have HMOD := Lib.hid hmod
                  have k3 : wr.cell? ⟨o, 3, none⟩ = some (.slice H h.length hcap) := one_block ((hmod.block o ho9 (by omega)).trans HSELF.out) 3
                  clear hrow hmod
                  by_cases hql : q < h.length
                  · obtain ⟨y, hy⟩ : ∃ y, h[q]? = some y := ⟨h[q], List.getElem?_eq_getElem hql⟩
                    have hyn := HSE.out.lowH y (List.mem_of_getElem? hy)
                    rcases HH9.out.form with ⟨_, h2, _⟩ | ⟨g7, hg1, hg2, hg3, hg4⟩
                    · rw [h2] at hql; exact absurd hql (Nat.not_lt_zero _)
                    have hcell : wr.cell? ⟨g7, q, none⟩ = some (.int .i64 (y : Int)) := by
                      have h9 := HH9.out
                      have h6 := HSE.out.row.lt g7 hg1
                      rw [hg1] at h9
                      have h8 : OwnN wr B (some ⟨g7, 0, none⟩) hcap h := h9.same fun x hx => by
                        injection hx with hx; injection hx with hx; subst hx
                        exact HMOD.out.block _ hg3 (by have := HG.out; omega)
                      exact h8.elem hy
                    have HM := Lib.hid (more_any g n y _ wr HROW.out hyn (Nat.le_trans (Nat.add_le_add (Nat.add_le_add (Nat.add_le_add List.countP_le_length List.count_le_length) (show slotN _ _ ≤ _ from List.countP_le_length)) List.count_le_length) (by rw [List.length_take]; omega)))
                    have HUP := Lib.hid (upd_more (c := fun f => P.countP (fun z => z.2.frame == f) + NN.count f + slotN L f + (h.take q).count f) (d := fun f => P.countP (fun z => z.2.frame == f) + NN.count f + slotN L f + (h.take (q + 1)).count f) (y := y) (fun f => by show _ + _ = _ + _ + _; rw [take_cntN hy f]; omega))
                    subst hg1
                    have hqc : q < hcap := by omega
                    clear hy
                    go_wp2_with (first
                      | (go_at_call 25; refine (HM.out).mono ?_; rintro e wy ⟨rfl, hr2, hm2⟩; have HR2 := Lib.hid hr2; have HM2 := Lib.hid hm2; clear hr2 hm2)
                      | fail)
                    go_roundw
                    case rel => exact ⟨q + 1, rfl, by go_num, by omega, HR2.out.congr fun f _ => congrFun HUP.out f, HMOD.out.trans (Out.refl _ _) HM2.out⟩
                    case measure => (simp [intOf]; omega)
                  · obtain rfl : q = h.length := by omega
                    obtain ⟨wz, hwz⟩ : ∃ wz, wz = wr := ⟨_, rfl⟩
                    obtain ⟨C, hC⟩ : ∃ C : Nat → Nat, C = fun f => P.countP (fun z => z.2.frame == f) + NN.count f + slotN L f + h.count f := ⟨_, rfl⟩
                    have HROWE := Lib.hid (show IntRow wz g n C from by
                      rw [hwz, hC]
                      exact HROW.out.congr fun f _ => by rw [List.take_length])
                    have HBZ := Lib.hid (show Below w5.heap.size w5 wz from by
                      rw [hwz]
                      exact HB59.out.trans (HMOD.out.below (B := w5.heap.size) (fun b hb => by have := HG.out; omega) HB59.out.size))
                    have hcount : ∀ (f : Nat) (W : World), f < n → Below wz.heap.size wz W → Calls Tryz.prog 26 #[.pointer (some ⟨a, 0, none⟩), .int .i64 (f : Int)] W fun e w' => e = .returned (.int .i64 ((C f : Nat) : Int)) ∧ Below W.heap.size W w' := fun f W hf hW => by
                      have h9 := HSE.out.count W f hf (HBZ.out.trans (hW.mono HBZ.out.size))
                      rw [hC]
                      exact h9.mono fun _ _ ⟨h1, h2⟩ => ⟨h1, h2 ▸ Below.refl _ _⟩
                    have HCOUNT := Lib.hid hcount
                    have k0 : wz.cell? ⟨o, 0, none⟩ = some (.pointer (some ⟨a, 0, none⟩)) := (HBZ.out.cell (p := ⟨o, 0, none⟩) ho5).trans (one_block HSE.out.self 0)
                    have hoz : o < wz.heap.size := Nat.lt_of_lt_of_le ho5 HBZ.out.size
                    clear hcount hC HROW HMOD HROWD HMODD
                    subst hwz
                    go_wp2_with fail
                    go_loopw [16] (fun i wx => ∃ f : Nat, i = .int .i64 (f : Int) ∧ f ≤ n ∧ Below wz.heap.size wz wx) (fun i _ => n - (intOf i).toNat)
                    case atStart => exact ⟨0, rfl, Nat.zero_le _, Below.refl _ _⟩
                    case round =>
                      obtain ⟨f, rfl, hf, hbf⟩ := hrel
                      have HBF := Lib.hid hbf
                      clear hbf
                      by_cases hlf : f < n
                      · have e0 : wr.cell? ⟨o, 0, none⟩ = some (.pointer (some ⟨a, 0, none⟩)) := (HBF.out.cell (p := ⟨o, 0, none⟩) hoz).trans k0
                        have e1 : wr.cell? ⟨g, f, none⟩ = some (.int .i64 (C f : Int)) := (HBF.out.cell (p := ⟨g, f, none⟩) (Array.getElem?_eq_some_iff.1 HROWE.out).1).trans (row_cell HROWE.out hlf)
                        have d0 : ∀ d os, (grow (redrawn wr d) os).cell? ⟨o, 0, none⟩ = some (.pointer (some ⟨a, 0, none⟩)) := fun d os => cell_regrown e0 d os
                        have d1 : ∀ d os, (grow (redrawn wr d) os).cell? ⟨g, f, none⟩ = some (.int .i64 (C f : Int)) := fun d os => cell_regrown e1 d os
                        have HGC := Lib.hid (fun d os => Calls.regrown_of (HCOUNT.out f (grow (redrawn wr d) os) hlf (HBF.out.trans ((below_regrown wr d os).mono HBF.out.size))))
                        have hli : (f : Int) < (n : Int) := by omega
                        go_upto_region 33 with (fail)
                        refine wp_region_quiet_below (by kernel_rfl) (by kernel_rfl) ?_; (repeat (go_big_quiet_step ((exact HGC.out _ _)))); refine wpQuiet_nil ?_; intro _ hw'; obtain ⟨⟨dq, osq⟩, hw''⟩ := hw'; subst hw''; have hbq := below_regrown (wr) dq osq; generalize grow (redrawn (wr) dq) osq = wq at hbq ⊢
                        have HBN := Lib.hid (HBF.out.trans (hbq.mono HBF.out.size))
                        clear d0 d1 e0 e1 hbq
                        go_wp2_with fail
                        go_roundw
                        case rel => exact ⟨f + 1, by go_num, by omega, HBN.out⟩
                        case measure => (simp [intOf]; omega)
                      · obtain rfl : f = n := by omega
                        go_wp2_with fail
                        go_roundw
                        case rel => exact ⟨j + 1, by go_num, by omega, (HS5.out.below (HBZ.out.trans (HBF.out.mono HBZ.out.size))), HB5.out.trans ((HBZ.out.trans (HBF.out.mono HBZ.out.size)).mono HB5.out.size)⟩
                        case measure => (simp [intOf]; omega)

end Go.Proofs.YtmkgdgfbdmjeeaaGreatDoor
