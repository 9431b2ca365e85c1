/- TableFrees, its walk. -/
import Derived.Test.YtmkgdgfbdmjeeaaDoorLwF
import Derived.Test.YtmkgdgfbdmjeeaaDoorCaH
import Derived.Test.YtmkgdgfbdmjeeaaDoorTvA
namespace Go.Proofs.YtmkgdgfbdmjeeaaDoor
open Go.RowKit Go.Sort
set_option linter.unusedSimpArgs false
set_option linter.unusedVariables false

/-- What is counted when all that a table has is given up. -/
theorem Sta.Fine.freed {s : Sta} {root n k : Nat} (h : s.Fine root n k) {f : Nat} (hf : f < n) : (downs s.p ((s.T.evs 4 0).flatMap Ev.fs)).cnt f = slotN s.L f + cntH s.hold f := by
  rw [downs_cnt, h.good.ok.frames_cnt, h.good.cnt f (by rw [h.size]; exact hf)]
  show leafCnt s.T f + nodeCnt s.T f + (slotN s.L f + cntH s.hold f) - (leafCnt s.T f + nodeCnt s.T f) = _
  omega
theorem Sta.Fine.dropped {s : Sta} {root n k : Nat} (h : s.Fine root n k) {f : Nat} (hf : f < n) : (dropTo (downs s.p ((s.T.evs 4 0).flatMap Ev.fs)) s.L []).cnt f = cntH s.hold f := by
  show (downs s.p ((s.T.evs 4 0).flatMap Ev.fs)).cnt f - (slotN s.L f - slotN [] f) = _
  rw [h.freed hf]
  have : slotN [] f = 0 := rfl
  omega
theorem count_take_succ {l : List Nat} {k x f : Nat} (h : l[k]? = some x) : (l.take (k + 1)).count f = (l.take k).count f + if x = f then 1 else 0 := by
  rw [take_snoc h, List.count_append, List.count_singleton]
  by_cases e : x = f
  · subst e; simp
  · simp [e]

set_option maxRecDepth 100000 in
set_option maxHeartbeats 4000000 in
theorem tableFrees_any (n : Int) (A : Option Addr) (len cap : Nat) (w : World) (hA : ArgO w A len cap) (hdb : DB w) (hw0 : 0 < w.heap.size) :
    Calls Tryd.prog 5 #[.int .i64 n, .slice A len cap] w (LawPost w) := by
  obtain ⟨hlen0, hl⟩ := hA
  have HWK := Lib.hid (fun W (hW : Below w.heap.size w W) => works_any W (hdb.same (hW.block 0 hw0)) (Nat.lt_of_lt_of_le hw0 hW.size))
  have HDB := Lib.hid hdb
  clear hdb
  by_cases hv : 96 < n ∨ (120 : Int) < (len : Int)
  · have HV := Lib.hid (fun W => vast_yes n A len cap W hv)
    clear hv
    go_enter Tryd.func5, Tryd.ntmps5
    go_wp2_with (first
      | (go_at_call 25; refine (HV.out _).mono ?_; rintro e w1 ⟨rfl, rfl⟩)
      | (go_at_call 24; refine (HWK.out _ (Below.refl _ _)).mono ?_; rintro e w2 ⟨rfl, hb2⟩)
      | fail)
    go_ret
    exact ⟨rfl, hb2⟩
  have hn96 : n ≤ 96 := by omega
  have hk120 : (len : Int) ≤ 120 := by omega
  have HV := Lib.hid (fun W => vast_no n A len cap W hn96 hk120)
  clear hv
  by_cases hn1 : n < 1
  · have HBH := Lib.hid (behind_bad n A len cap w hn1 (by omega))
    clear hn1
    go_enter Tryd.func5, Tryd.ntmps5
    go_wp2_with (first
      | (go_at_call 25; refine (HV.out _).mono ?_; rintro e w1 ⟨rfl, rfl⟩)
      | (go_at_call 26; refine (HBH.out).mono ?_; rintro e w1 ⟨rfl, hb1⟩)
      | (go_at_call 24; refine (HWK.out _ hb1).mono ?_; rintro e w2 ⟨rfl, hb2⟩)
      | fail)
    go_ret
    exact ⟨rfl, hb1.trans (hb2.mono hb1.size)⟩
  obtain ⟨l, hsl⟩ := hl (by omega)
  obtain ⟨n, rfl⟩ : ∃ m : Nat, n = (m : Int) := ⟨n.toNat, by omega⟩
  have HBH := Lib.hid (behind_any n len cap A l w (by omega) (by omega) hsl (by omega) HDB.out (by omega))
  clear hsl hl hn1
  go_enter Tryd.func5, Tryd.ntmps5
  go_upto_region 6 with (first
    | (go_at_call 25; refine (HV.out _).mono ?_; rintro e w1 ⟨rfl, rfl⟩)
    | (go_at_call 26; refine (HBH.out).mono ?_; rintro e w1 ⟨B, o, a, c, fs, m, t, S, s, H, cap', rfl, hrun, hfine, hb1, hB⟩; have HRUN := Lib.hid hrun; have HB1 := Lib.hid hb1; clear hrun hb1)
    | fail)
  obtain ⟨l1, l2, l3, l4, l5⟩ := HRUN.out.lts
  have hO1 := HRUN.out.own.self
  have o2 : w1.cell? ⟨o, 2, none⟩ = some (.pointer (some ⟨t, 0, none⟩)) := one_block hO1 2
  have hfree := tfree_any t c a 0 w1 S s.p s.T _ 0 HRUN.out.own.cache.pool HRUN.out.own.tab HRUN.out.own.noS.2 (by have := HRUN.out.own.lows; omega) hfine.good hfine.root
  have HFREE := Lib.hid hfree
  clear hfree hO1
  go_upto_region 7 with (first
    | (go_at_call 16; refine (HFREE.out).mono ?_; rintro e w2 ⟨rfl, hP2, hm2, ht2⟩; have HP2 := Lib.hid hP2; have HM2 := Lib.hid hm2; clear hP2 hm2 ht2)
    | fail)
  have hne := HRUN.out.own.ne
  have hnoS := HRUN.out.own.noS
  have hC1 := HRUN.out.own.cache
  have hz2 := HM2.out.size
  have hC2 : CacheAt w2 S c a fs m s.clock (downs s.p ((s.T.evs 4 0).flatMap Ev.fs)) s.L := ⟨HP2.out, (HM2.out.block c l3 (fun e => e.elim hC1.noC (fun e => hne.2.2.2.2 e.symm))).trans hC1.self, hC1.slots.same (HM2.out.block m l4 (fun e => e.elim hC1.noM (fun e => hne.2.2.2.1 e.symm))), hC1.noC, hC1.noM⟩
  have hO2 := (HM2.out.block o l1 (fun e => e.elim hnoS.1 hne.2.2.1)).trans HRUN.out.own.self
  have o1 : w2.cell? ⟨o, 1, none⟩ = some (.pointer (some ⟨c, 0, none⟩)) := one_block hO2 1
  have hdrop := drop_any c a fs m s.clock w2 S _ s.L hC2 (fun x hx => ⟨by rw [downs_n, hfine.size]; exact hfine.slow x hx, by rw [hfine.freed (hfine.slow x hx)]; omega⟩)
  have HDROP := Lib.hid hdrop
  have HO2 := Lib.hid hO2
  clear hdrop hC1 hC2 hO2 o2
  go_upto_region 8 with (first
    | (go_at_call 28; refine (HDROP.out).mono ?_; rintro e w3 ⟨rfl, hC3, hm3⟩; have HC3 := Lib.hid hC3; have HM3 := Lib.hid hm3; clear hC3 hm3)
    | fail)
  have hz3 := HM3.out.size
  have hO3 := (HM3.out.block o (by omega) (fun e => e.elim hnoS.1 hne.2.1)).trans HO2.out
  have o0 : w3.cell? ⟨o, 0, none⟩ = some (.pointer (some ⟨a, 0, none⟩)) := one_block hO3 0
  have o3 : w3.cell? ⟨o, 3, none⟩ = some (.slice H s.hold.length cap') := one_block hO3 3
  obtain ⟨p3, hp3⟩ : ∃ p3, p3 = dropTo (downs s.p ((s.T.evs 4 0).flatMap Ev.fs)) s.L [] := ⟨_, rfl⟩
  have hn3 : p3.n = n := by rw [hp3]; show (downs _ _).n = n; rw [downs_n, hfine.size]
  have hc3 : ∀ f, f < n → p3.cnt f = s.hold.count f := fun f hf => by rw [hp3, hfine.dropped hf]; rfl
  have hC3 := HC3.out
  rw [← hp3] at hC3
  have hrow3 : OwnN w3 B H cap' s.hold := HRUN.out.row.same fun g hg => by
    obtain ⟨r1, r2, r3, r4, r5⟩ := HRUN.out.rowNo g hg
    have hgl := (HRUN.out.row.lt g hg).2
    exact (HM3.out.block g (by omega) (fun e => e.elim r1 r4)).trans (HM2.out.block g hgl (fun e => e.elim r1 r5))
  have hsize := psize_any a w3 S p3 hC3.pool
  rw [hn3] at hsize
  have hcount : ∀ f : Nat, f < n → Calls Tryd.prog 30 #[.pointer (some ⟨a, 0, none⟩), .int .i64 (f : Int)] w3 fun e w' => e = .returned (.int .i64 ((s.hold.count f : Nat) : Int)) ∧ w3 = w' := fun f hf => by
    have h9 := count_any a (f : Int) w3 S p3 hC3.pool
    rw [countB_nat (by omega), hc3 f hf] at h9
    exact h9
  have hall : Below w.heap.size w w3 := by
    have h12 := HM2.out.below (B := B) (fun b hb => hb.elim (HRUN.out.own.low b) (fun e => by have := HRUN.out.own.lows; omega)) HRUN.out.base
    have h23 := HM3.out.below (B := B) (fun b hb => hb.elim (HRUN.out.own.low b) (fun e => by have := HRUN.out.own.lows; omega)) (by have := HRUN.out.base; omega)
    exact HB1.out.trans ((h12.mono hB).trans (h23.mono hB))
  have hform := hrow3.form
  have hfew := hfine.few
  have HSIZE := Lib.hid hsize
  have HCOUNT := Lib.hid hcount
  have HALL := Lib.hid hall
  have HROW := Lib.hid hrow3
  have HC := Lib.hid hc3
  have HN3 := Lib.hid hn3
  clear hp3 hC3 hO3 hsize hcount hall hrow3 hc3 hn3 o1 HC3 HO2 hfine
  go_wp2_with fail
  go_loopw [7] (fun i wr => ∃ f : Nat, i = .int .i64 (f : Int) ∧ f ≤ n ∧ wr = w3) (fun i _ => n - (intOf i).toNat)
  case atStart => exact ⟨0, rfl, Nat.zero_le _, rfl⟩
  case round =>
    obtain ⟨f, rfl, hf, rfl⟩ := hrel
    by_cases hlt : f < n
    · go_wp2_with (first
        | (go_at_call 29; refine (HSIZE.out).mono ?_; rintro e w4 ⟨rfl, rfl⟩)
        | fail)
      go_loopw [8, 9] (fun h i wx => ∃ k : Nat, h = .int .i64 (((s.hold.take k).count f : Nat) : Int) ∧ i = .int .i64 (k : Int) ∧ k ≤ s.hold.length ∧ wx = wr) (fun _ i _ => s.hold.length - (intOf i).toNat)
      case atStart => exact ⟨0, rfl, rfl, Nat.zero_le _, rfl⟩
      case round =>
        obtain ⟨k, rfl, rfl, hk, rfl⟩ := hrel
        by_cases hkl : k < s.hold.length
        · obtain ⟨x, hx⟩ : ∃ x, s.hold[k]? = some x := ⟨s.hold[k], List.getElem?_eq_getElem hkl⟩
          have hcs := count_take_succ (f := f) hx
          rcases hform with ⟨_, h2, _⟩ | ⟨g, hg1, _, hg2, hg3⟩
          · rw [h2] at hkl; cases hkl
          subst hg1
          have hcell := HROW.out.elem hx
          have hkc : k < cap' := by omega
          have hcb : (s.hold.take k).count f ≤ 1000 := Nat.le_trans List.count_le_length (by rw [List.length_take]; omega)
          have HCS := Lib.hid hcs
          clear hcs hx
          by_cases e : x = f
          · have he : ((x : Int) == (f : Int)) = true := by rw [beq_iff_eq, e]
            have HE := Lib.hid e
            clear e
            go_wp2_with fail
            go_roundw
            case rel => exact ⟨k + 1, by rw [HCS.out, if_pos HE.out]; go_num, by go_num, by omega, trivial⟩
            case measure => (simp [intOf]; omega)
          · have he : ((x : Int) == (f : Int)) = false := by rw [beq_eq_false_iff_ne]; omega
            have HE := Lib.hid e
            clear e
            go_wp2_with fail
            go_roundw
            case rel => exact ⟨k + 1, by rw [HCS.out, if_neg HE.out]; rfl, by go_num, by omega, trivial⟩
            case measure => (simp [intOf]; omega)
        · obtain rfl : k = s.hold.length := by omega
          go_wp2_with (first
            | (go_at_call 30; refine (HCOUNT.out f hlt).mono ?_; rintro e w4 ⟨rfl, rfl⟩)
            | fail)
          go_roundw
          case rel => exact ⟨f + 1, by go_num, by omega, trivial⟩
          case measure => (simp [intOf]; omega)
    · obtain rfl : f = n := by omega
      go_wp2_with (first
        | (go_at_call 29; refine (HSIZE.out).mono ?_; rintro e w4 ⟨rfl, rfl⟩)
        | (go_at_call 24; refine (HWK.out _ HALL.out).mono ?_; rintro e w7 ⟨rfl, hb7⟩)
        | fail)
      go_ret
      exact ⟨rfl, HALL.out.trans (hb7.mono HALL.out.size)⟩

end Go.Proofs.YtmkgdgfbdmjeeaaDoor
