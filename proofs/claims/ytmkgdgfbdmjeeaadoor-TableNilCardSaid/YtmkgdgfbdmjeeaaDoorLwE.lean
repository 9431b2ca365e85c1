/- TableNil, its walk. -/
import Derived.Test.YtmkgdgfbdmjeeaaDoorLwD
import Derived.Test.YtmkgdgfbdmjeeaaDoorLwB
import Derived.Test.YtmkgdgfbdmjeeaaDoorTvE
namespace Go.Proofs.YtmkgdgfbdmjeeaaDoor
open Go.RowKit Go.Sort
set_option linter.unusedSimpArgs false
set_option linter.unusedVariables false

theorem root_freed {n : Nat} (h1 : 1 ≤ n) (h2 : n ≤ 1024) : (downs ((fresh n).takeAt 0) (((rootTab 0).evs 4 0).flatMap Ev.fs)).left = n := by
  have hg := rootTab_good h1 h2
  have : (downs ((fresh n).takeAt 0) (((rootTab 0).evs 4 0).flatMap Ev.fs)).left = freeTo (fun _ => 0) n := by
    show freeTo _ (downs _ _).n = _
    rw [downs_n]
    refine freeTo_congr fun i hi => ?_
    rw [downs_cnt, hg.ok.frames_cnt, hg.cnt i hi]
    have e : held [] (fun _ => 0) i = 0 := rfl
    rw [e]
    constructor <;> intro _ <;> omega
  rw [this, freeTo_all]
theorem one_row2 {w : World} {b : Nat} {x y : Value} {T : TypeId} (h : w.heap[b]? = some (.cells #[x, y] T (0, 0))) : w.cell? ⟨b, 0, none⟩ = some x ∧ w.cell? ⟨b, 1, none⟩ = some y := ⟨one_block h 0, one_block h 1⟩

set_option maxRecDepth 100000 in
set_option maxHeartbeats 4000000 in
theorem tableNil_any (k A fr q n : Int) (cp : Bool) (w : World) (hdb : DB w) (hw0 : 0 < w.heap.size) : Calls Tryd.prog 3 #[.agg #[.int .i64 k, .int .u64 A, .int .i64 fr, .int .u8 q, .bool cp, .int .i64 n]] w fun e w' => e = .returned (.bool true) ∧ Below w.heap.size w w' := by
  obtain ⟨w0, hwd⟩ : ∃ w0, w0 = w.alloc (.cells #[.int .i64 k, .int .u64 A, .int .i64 fr, .int .u8 q, .bool cp, .int .i64 n] 24) := ⟨_, rfl⟩
  have hb0 : Below w.heap.size w w0 := by rw [hwd]; exact (Below.refl _ _).alloc (Nat.le_refl _) _
  have hE : w0.heap[w.heap.size]? = some (.cells #[.int .i64 k, .int .u64 A, .int .i64 fr, .int .u8 q, .bool cp, .int .i64 n] 24 (0, 0)) := by rw [hwd]; exact heap_alloc_new w _
  have l0 : w.heap.size < w0.heap.size := (Array.getElem?_eq_some_iff.1 hE).1
  have hdb0 : DB w0 := hdb.same (hb0.block 0 hw0)
  have hmade := made_any 8 w0 (by omega) (by omega) hdb0 (by omega)
  have HMADE := Lib.hid hmade
  have HE := Lib.hid hE
  have HWD := Lib.hid hwd
  have HDB := Lib.hid hdb
  clear hmade hE hwd hdb hdb0
  go_enter Tryd.func3, Tryd.ntmps3
  go_upto_region 1 with (fail)
  rw [← HWD.out]
  go_wp2_with (first
    | (go_at_call 14; refine (tnew_nil _).mono ?_; rintro e w1 ⟨rfl, rfl⟩)
    | fail)
  refine (HMADE.out).mono ?_
  rintro e w2 ⟨B, o, a, c, fs, m, t, S, rfl, hown, hb2, hB, _⟩
  have o2 : w2.cell? ⟨o, 2, none⟩ = some (.pointer (some ⟨t, 0, none⟩)) := one_block hown.self 2
  have hz2 := hb2.size
  have htw := (Array.getElem?_eq_some_iff.1 hown.tab).1
  have how := (Array.getElem?_eq_some_iff.1 hown.self).1
  have hfree := tfree_any t c a 0 w2 S _ (rootTab 0) _ 0 hown.cache.pool hown.tab hown.noS.2 (by have := hown.lows; omega) (rootTab_good (n := 8) (by omega) (by omega)) (rootTab_root 0)
  have HFREE := Lib.hid hfree
  have HOWN := Lib.hid hown
  have HB2 := Lib.hid hb2
  clear hfree hown hb2
  go_wp2_with fail
  refine (HFREE.out).mono ?_
  rintro e w3 ⟨rfl, hP3, hm3, ht3⟩
  have hz3 := hm3.size
  have hlows := HOWN.out.lows
  have hb23 : Below B w2 w3 := hm3.below (fun b hb => hb.elim (HOWN.out.low b) (fun e => by omega)) (by omega)
  have hO3 := (hm3.block o how (fun e => e.elim HOWN.out.noS.1 HOWN.out.ne.2.2.1)).trans HOWN.out.self
  have o3 : w3.cell? ⟨o, 2, none⟩ = some (.pointer (some ⟨t, 0, none⟩)) := one_block hO3 2
  have hE3 := (HB2.out.trans (hb23.mono (by omega))).block _ l0 |>.trans HE.out
  have HP3 := Lib.hid hP3
  have HO3 := Lib.hid hO3
  have HB23 := Lib.hid hb23
  have HT3 := Lib.hid ht3
  have HE3 := Lib.hid hE3
  clear hP3 hm3 hO3 hb23 ht3 hE3 o2
  go_upto_region 9 with (first
    | (go_at_call 16; refine (tfree_gone none _ trivial).mono ?_; rintro e w4 ⟨rfl, rfl⟩)
    | fail)
  obtain ⟨w5, hw5⟩ : ∃ w5, w5 = w3.alloc (.cells #[.pointer none, .pointer (some ⟨t, 0, none⟩)] 25) := ⟨_, rfl⟩
  rw [← hw5]
  have hb5 : Below w3.heap.size w3 w5 := by rw [hw5]; exact (Below.refl _ _).alloc (Nat.le_refl _) _
  have hL5 : w5.heap[w3.heap.size]? = some (.cells #[.pointer none, .pointer (some ⟨t, 0, none⟩)] 25 (0, 0)) := by rw [hw5]; exact heap_alloc_new _ _
  have hl5 : w3.heap.size < w5.heap.size := (Array.getElem?_eq_some_iff.1 hL5).1
  have HL5 := Lib.hid hL5
  have HE5 := Lib.hid ((hb5.block _ (by omega)).trans HE3.out)
  have HO5 := Lib.hid ((hb5.block o (by omega)).trans HO3.out)
  have HP5 := Lib.hid (HP3.out.below hb5)
  have HT5 := Lib.hid ((hb5.cell (p := ⟨t, 1, none⟩) (by show t < _; omega)).trans HT3.out)
  have HB5 := Lib.hid hb5
  have keep : ∀ wr, Below w5.heap.size w5 wr → wr.cell? ⟨w.heap.size, 1, none⟩ = some (.int .u64 A) ∧ wr.cell? ⟨w.heap.size, 2, none⟩ = some (.int .i64 fr) ∧ wr.cell? ⟨w.heap.size, 3, none⟩ = some (.int .u8 q) ∧ wr.cell? ⟨w.heap.size, 4, none⟩ = some (.bool cp) ∧ TabGone wr (some ⟨t, 0, none⟩) ∧ wr.cell? ⟨w3.heap.size, 0, none⟩ = some (.pointer none) ∧ wr.cell? ⟨w3.heap.size, 1, none⟩ = some (.pointer (some ⟨t, 0, none⟩)) := by
    intro wr hb
    have lw : w.heap.size < w5.heap.size := by omega
    exact ⟨(hb.cell (p := ⟨w.heap.size, 1, none⟩) lw).trans (one_block HE5.out 1), (hb.cell (p := ⟨w.heap.size, 2, none⟩) lw).trans (one_block HE5.out 2), (hb.cell (p := ⟨w.heap.size, 3, none⟩) lw).trans (one_block HE5.out 3), (hb.cell (p := ⟨w.heap.size, 4, none⟩) lw).trans (one_block HE5.out 4), ⟨t, rfl, (hb.cell (p := ⟨t, 1, none⟩) (by show t < _; omega)).trans HT5.out⟩, (hb.cell (p := ⟨w3.heap.size, 0, none⟩) hl5).trans (one_block HL5.out 0), (hb.cell (p := ⟨w3.heap.size, 1, none⟩) hl5).trans (one_block HL5.out 1)⟩
  have KEEP := Lib.hid keep
  clear hw5 hL5 hb5 keep o3
  go_wp2_with fail
  go_loopw [9] (fun i wr => ∃ k : Nat, i = .int .i64 (k : Int) ∧ k ≤ 2 ∧ Below w5.heap.size w5 wr) (fun i _ => 2 - (intOf i).toNat)
  case atStart => exact ⟨0, rfl, by omega, Below.refl _ _⟩
  case round =>
    obtain ⟨k, rfl, hk, hbr⟩ := hrel
    obtain ⟨wl, hwl⟩ : ∃ wl, wl = wr := ⟨_, rfl⟩
    subst hwl
    by_cases hlt : k < 2
    · obtain ⟨P, hP, hPc⟩ : ∃ P : Option Addr, (∀ wr, Below w5.heap.size w5 wr → TabGone wr P) ∧ (∀ wr, Below w5.heap.size w5 wr → wr.cell? ⟨w3.heap.size, k, none⟩ = some (.pointer P)) := by
        rcases (by omega : k = 0 ∨ k = 1) with rfl | rfl
        · exact ⟨none, fun _ _ => trivial, fun wr hb => (KEEP.out _ hb).2.2.2.2.2.1⟩
        · exact ⟨_, fun wr hb => (KEEP.out _ hb).2.2.2.2.1, fun wr hb => (KEEP.out _ hb).2.2.2.2.2.2⟩
      have p0 := hPc wl hbr
      obtain ⟨a1, a2, a3, a4, _⟩ := KEEP.out _ hbr
      have HG := Lib.hid hP
      clear hP hPc
      go_wp2_with (first
        | (go_at_call 17; refine (map_gone P A fr q false _ (HG.out _ hbr)).mono ?_; rintro e w6 ⟨rfl, hb6⟩; have hb6 := hbr.trans (hb6.mono hbr.size); obtain ⟨b1, b2, b3, b4, _⟩ := KEEP.out _ hb6)
        | (go_at_call 18; refine (unmap_gone P A _ (HG.out _ hb6)).mono ?_; rintro e w7 ⟨rfl, hb7⟩; have hb7 := hb6.trans (hb7.mono hb6.size); obtain ⟨c1, c2, c3, c4, _⟩ := KEEP.out _ hb7)
        | (go_at_call 19; refine (set_gone P A fr q cp _ (HG.out _ hb7)).mono ?_; rintro e w8 ⟨rfl, hb8⟩; have hb8 := hb7.trans (hb8.mono hb7.size); obtain ⟨d1, d2, d3, d4, _⟩ := KEEP.out _ hb8)
        | (go_at_call 20; refine (find_gone P A _ (HG.out _ hb8)).mono ?_; rintro e w9 ⟨rfl, hb9⟩; have hb9 := hb8.trans (hb9.mono hb8.size))
        | (go_at_call 21; refine (all_gone P _ (HG.out _ (hb9.alloc hb9.size _))).mono ?_; rintro e w10 ⟨rfl, rfl⟩)
        | (go_at_call 22; refine (nodes_gone P _ (HG.out _ (hb9.alloc hb9.size _))).mono ?_; rintro e w11 ⟨rfl, rfl⟩))
      go_roundw
      case rel => exact ⟨k + 1, by go_num, by omega, hb9.alloc hb9.size _⟩
      case measure => (simp [intOf]; omega)
    · have hO := (hbr.block o (by omega)).trans HO5.out
      have o6 : wl.cell? ⟨o, 2, none⟩ = some (.pointer (some ⟨t, 0, none⟩)) := one_block hO 2
      have o7 : wl.cell? ⟨o, 0, none⟩ = some (.pointer (some ⟨a, 0, none⟩)) := one_block hO 0
      have hgone := (KEEP.out _ hbr).2.2.2.2.1
      have hfr := pfree_any a wl S _ (HP5.out.below hbr)
      rw [root_freed (by omega) (by omega)] at hfr
      have h25 : Below B w2 w5 := HB23.out.trans (HB5.out.mono (by omega))
      have hall : Below w.heap.size w wl := hb0.trans ((HB2.out.trans ((h25.trans (hbr.mono (by have := h25.size; omega))).mono (by omega))).mono hb0.size)
      have hwk := works_any wl (HDB.out.same (hall.block 0 hw0)) (by have := hall.size; omega)
      have HFR := Lib.hid hfr
      have HWK := Lib.hid hwk
      have HALL := Lib.hid hall
      have HGN := Lib.hid hgone
      clear hO hgone hfr hwk hall h25
      go_wp2_with (first
        | (go_at_call 16; refine (tfree_gone (some ⟨t, 0, none⟩) _ HGN.out).mono ?_; rintro e w4 ⟨rfl, rfl⟩)
        | (go_at_call 23; refine (HFR.out).mono ?_; rintro e w4 ⟨rfl, rfl⟩)
        | (go_at_call 24; refine (HWK.out).mono ?_; rintro e w5' ⟨rfl, hb9⟩))
      go_ret
      exact ⟨rfl, HALL.out.trans (hb9.mono HALL.out.size)⟩

end Go.Proofs.YtmkgdgfbdmjeeaaDoor
