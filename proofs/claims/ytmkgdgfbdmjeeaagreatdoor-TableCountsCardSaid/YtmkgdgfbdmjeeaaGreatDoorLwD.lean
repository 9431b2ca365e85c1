/- The table's statements: works. -/
import Derived.Test.YtmkgdgfbdmjeeaaGreatDoorLwA
import Derived.Test.YtmkgdgfbdmjeeaaGreatDoorTmC
import Derived.Test.YtmkgdgfbdmjeeaaGreatDoorTbA
namespace Go.Proofs.YtmkgdgfbdmjeeaaGreatDoor
open Go.RowKit Go.Sort
set_option linter.unusedSimpArgs false
set_option linter.unusedVariables false

def pool8 : Pool := ((fresh 8).takeAt 0).takeAt 1
theorem pool8_left : pool8.left = 6 := by decide
theorem pool8_lowest : ((fresh 8).takeAt 0).lowest = some 1 := by decide
theorem held_root : (rootTab 0).Good pool8 (held [] (upd (fun _ => 0) 1 1)) 0 4 :=
  (((rootTab_good (n := 8) (by omega) (by omega)).ctake (by unfold Sole; simp) (TakeRes.free 1 pool8_lowest))).1
/-- What the statement asks of the pool behind its Map. -/
theorem works_count {p' : Pool} {T' : Tab} {L' : List Slot} {r : Int} (h : MapRes pool8 (rootTab 0) [] (upd (fun _ => 0) 1 1) 1 ⟨1, 6, false⟩ r p' T' L') : r = 0 ∧ T'.lf 1 = some ⟨1, 6, false⟩ ∧ T'.nd 4 0 = some 0 ∧ T'.Good p' (held L' (upd (fun _ => 0) 1 1)) 1 4 ∧ countB p' 1 = 2 := by
  obtain ⟨h1, h2, h3, h4, h5⟩ := h
  rcases h5 with ⟨_, _, h⟩ | ⟨rfl, hlf, hnd, hn⟩
  · rw [pool8_left] at h; omega
  · refine ⟨rfl, by rw [hlf]; exact upd_same _ _ _, hnd _ _ _ (rootTab_root 0), h1, ?_⟩
    have e0 : p'.n = 8 := h2
    have hc := h1.cnt 1 (by omega)
    have hL : L' = [] := List.sublist_nil.1 h4
    have hnode : nodeCnt T' 1 = 0 := nodeCnt_no fun e => absurd (rootTab_node.1 (hn e)) (by decide)
    have hleaf : leafCnt T' 1 = 1 := leafCnt_one (by unfold pagesN; omega) (rootTab_leafCnt 0 1) rfl hlf rfl
    have hh : held L' (upd (fun _ => 0) 1 1) 1 = 1 := by rw [hL]; rfl
    rw [hnode, hleaf, hh] at hc
    have := countB_nat (p := p') (g := 1) (by omega)
    rw [show ((1 : Nat) : Int) = 1 from rfl] at this
    rw [this, hc]

set_option maxRecDepth 100000 in
set_option maxHeartbeats 2000000 in
theorem works_any (w : World) (hdb : DB w) (hw0 : 0 < w.heap.size) : Calls Tryz.prog 8 #[] w fun e w' => e = .returned (.bool true) ∧ Below w.heap.size w w' := by
  have hmade := made_any 8 w (by omega) (by omega) hdb hw0
  have HMADE := Lib.hid hmade
  clear hmade
  go_enter Tryz.func8, Tryz.ntmps8
  go_wp2_with fail
  refine (HMADE.out).mono ?_
  rintro e w1 ⟨B, o, a, c, fs, m, t, S, rfl, hown, hb1, hB, _⟩
  have o0 : w1.cell? ⟨o, 0, none⟩ = some (.pointer (some ⟨a, 0, none⟩)) := one_block hown.self 0
  have HOWN := Lib.hid hown
  have HB1 := Lib.hid hb1
  clear hown hb1
  go_wp2_with fail
  refine (take_some a 1 w1 S _ HOWN.out.cache.pool pool8_lowest).mono ?_
  rintro e w2 ⟨rfl, S2, hP2, hm2, ho2⟩
  have hC2 : CacheAt w2 S2 c a fs m 0 pool8 [] := HOWN.out.cache.turn hm2 hP2 ho2
  have how := (Array.getElem?_eq_some_iff.1 HOWN.out.self).1
  have htw := (Array.getElem?_eq_some_iff.1 HOWN.out.tab).1
  have hS2o : w2.heap[o]? = _ := (hm2.block o how HOWN.out.noS.1).trans HOWN.out.self
  have hT2 : TabSelf w2 t c a 0 := (hm2.block t htw HOWN.out.noS.2).trans HOWN.out.tab
  have hnt : ¬ S2 t := fun e => (ho2 t e).elim HOWN.out.noS.2 (by omega)
  have hno : ¬ S2 o := fun e => (ho2 o e).elim HOWN.out.noS.1 (by omega)
  have hl2 : ∀ b, S2 b → B ≤ b := fun b hb => (ho2 b hb).elim (HOWN.out.low b) (fun h => by have := HOWN.out.lows; omega)
  have o2 : w2.cell? ⟨o, 2, none⟩ = some (.pointer (some ⟨t, 0, none⟩)) := one_block hS2o 2
  have hcall := tmap_go t c a 0 fs m 0 4096 1 6 false w2 S2 pool8 (rootTab 0) [] (upd (fun _ => 0) 1 1) 0 ⟨1, 6, false⟩ hC2 hT2 hnt HOWN.out.ne.2.2.2.1 held_root (rootTab_root 0) (by omega) (by omega) (by omega) (by omega) (by decide) rfl rfl rfl rfl (by decide) (by decide) (by decide)
  have HC := Lib.hid hcall
  have HT2 := Lib.hid hT2
  have HS2 := Lib.hid hS2o
  have HM2 := Lib.hid hm2
  have HL2 := Lib.hid hl2
  have hz2 := hm2.size
  clear hcall hT2 hC2 hP2 hm2 ho2 hS2o hl2
  go_wp2_with fail
  refine (HC.out).mono ?_
  rintro e w3 ⟨r, p', T', L', S3, rfl, hC3, hm3, ho3, hres⟩
  obtain ⟨rfl, hlf, hr3, hg3, hcnt⟩ := works_count hres
  have hom : ¬ Both S2 m o := fun e => e.elim hno (fun e => HOWN.out.ne.2.1 e)
  have htm : ¬ Both S2 m t := fun e => e.elim hnt (fun e => HOWN.out.ne.2.2.2.1 e)
  have hS3o : w3.heap[o]? = _ := (hm3.block o (by omega) hom).trans HS2.out
  have hT3 : TabSelf w3 t c a 0 := (hm3.block t (by omega) htm).trans HT2.out
  have o3 : w3.cell? ⟨o, 2, none⟩ = some (.pointer (some ⟨t, 0, none⟩)) := one_block hS3o 2
  have hfind := tfind_any t c a 0 5000 w3 S3 p' T' hC3.pool hT3 (by have := hm3.size; omega) (hg3.tree hr3) (by omega)
  have hfr : findRes T' 5000 = (⟨1, 6, false⟩, 0) := by
    unfold findRes
    rw [if_neg (by omega), show (5000 : Int).toNat / 4096 = 1 from rfl, hlf]
  rw [hfr] at hfind
  have hfind' : Calls Tryz.prog 30 #[.pointer (some ⟨t, 0, none⟩), .int .u64 5000] w3 fun e w' => e = .returned (.tuple #[.agg #[.int .i64 1, .int .u8 6, .bool false], .int .i64 0]) ∧ Below w3.heap.size w3 w' := hfind
  have HF := Lib.hid hfind'
  have HC3 := Lib.hid hC3
  have HS3 := Lib.hid hS3o
  have HM3 := Lib.hid hm3
  have HCNT := Lib.hid hcnt
  have hz3 := hm3.size
  clear hfind hfind' hC3 hS3o hm3 ho3 hres hlf hr3 hg3 hfr hT3 hcnt
  go_wp2_with fail
  refine (HF.out).mono ?_
  rintro e w4 ⟨rfl, hb4⟩
  have hz4 := hb4.size
  obtain ⟨w5, hw5⟩ : ∃ w5, w5 = w4.alloc (.cells #[.int .i64 1, .int .u8 6, .bool false] 31) := ⟨_, rfl⟩
  have hb5 : Below w4.heap.size w4 w5 := by rw [hw5]; exact (Below.refl _ _).alloc (Nat.le_refl _) _
  have hL5 : w5.heap[w4.heap.size]? = some (.cells #[.int .i64 1, .int .u8 6, .bool false] 31 (0, 0)) := by rw [hw5]; exact heap_alloc_new _ _
  have hb35 : Below w3.heap.size w3 w5 := hb4.trans (hb5.mono hz4)
  have l0 : w5.cell? ⟨w4.heap.size, 0, none⟩ = some (.int .i64 1) := one_block hL5 0
  have l1 : w5.cell? ⟨w4.heap.size, 1, none⟩ = some (.int .u8 6) := one_block hL5 1
  have l2 : w5.cell? ⟨w4.heap.size, 2, none⟩ = some (.bool false) := one_block hL5 2
  have o5 : w5.cell? ⟨o, 0, none⟩ = some (.pointer (some ⟨a, 0, none⟩)) := (hb35.cell (p := ⟨o, 0, none⟩) (by show o < _; omega)).trans (one_block HS3.out 0)
  have hct := count_any a 1 w5 S3 p' (HC3.out.pool.below hb35)
  rw [HCNT.out] at hct
  have HCT := Lib.hid hct
  have HW5 := Lib.hid hw5
  have HB35 := Lib.hid hb35
  clear hct hw5 hb35 hb5 hL5 hb4
  go_upto_region 7 with (fail)
  rw [← HW5.out]
  go_wp2_with (go_at_call 26; refine (HCT.out).mono ?_; rintro e w6 ⟨rfl, rfl⟩)
  go_ret
  have hlows := HOWN.out.lows
  have h12 : Below B w1 w2 := HM2.out.below HOWN.out.low (by omega)
  have h23 : Below B w2 w3 := HM3.out.below (fun b hb => hb.elim (HL2.out b) (fun e => by omega)) (by omega)
  exact ⟨rfl, HB1.out.trans ((h12.trans (h23.trans (HB35.out.mono (by omega)))).mono hB)⟩

end Go.Proofs.YtmkgdgfbdmjeeaaGreatDoor
