/- Tables: Set. -/
import Derived.Test.YtmkgdgfbdmjeeaaGreatDoorTtF
import Derived.StillTailTactics
import Derived.Deep.QuietTactic
import Derived.BigQuiet
import Derived.Lib.QuietBelow
namespace Go.Proofs.YtmkgdgfbdmjeeaaGreatDoor
open Go.RowKit
set_option linter.unusedSimpArgs false
set_option linter.unusedVariables false

theorem up_cnt (p : Pool) (f g : Nat) (h : 1 ≤ p.cnt g) : 1 ≤ (p.up f).cnt g := by
  by_cases e : g = f
  · subst e; simp only [Pool.up, upd_same]; omega
  · simp only [Pool.up, upd_ne _ _ e]; exact h

theorem PoolAt.drew {w : World} {S : Nat → Prop} {a : Nat} {p : Pool} (h : PoolAt w S a p) : PoolAt w.drew S a p := h.below ((Below.refl _ _).drew)
theorem Mod.undrew {S : Nat → Prop} {w w' : World} (h : Mod S w.drew w') : Mod S w w' := ⟨h.os, h.tape, h.output, h.size, h.block⟩
theorem below_undrew {B : Nat} {w w' : World} (h : Below B w.drew w') : Below B w w' := ⟨h.os, h.tape, h.output, h.size, h.block⟩

set_option maxRecDepth 100000 in
set_option maxHeartbeats 2000000 in
theorem set_cl (t c a root f k bt bl : Nat) (l was : Leaf) (w : World) (S : Nat → Prop) (p : Pool) (h : PoolAt w S a p) (ht : TabSelf w t c a root) (htS : ¬ S t) (htw : t < w.heap.size) (hbt : PtrAt w bt t) (hbtS : ¬ S bt) (hbl : LeafAt w bl l) (hblS : ¬ S bl)
    (hf : f < p.n) (h1 : 1 ≤ p.cnt f) (hk : k < 512) (hw : word (p.dat f) k = was.pack) (hw7 : was.prot ≤ 7) (hwf : was.frame < p.n) (hwc : 1 ≤ p.cnt was.frame) (h7 : l.prot ≤ 7) (hlf : l.frame < p.n) (hlc : 1 ≤ p.cnt l.frame) (hcap : p.cnt l.frame + 1 < 1000000000000) (hn : p.n ≤ 1024)
    (hfc : 1 ≤ ((p.up l.frame).down was.frame).cnt f) :
    Calls Tryz.prog 102 (#[.int .i64 (f : Int), .int .i64 (k : Int)] ++ #[.pointer (some ⟨bt, 0, none⟩), .pointer (some ⟨bl, 0, none⟩)]) w
      fun e w' => e = .returned (.bool false) ∧ (PoolAt w' S a (((p.up l.frame).down was.frame).store f (setWord (p.dat f) k l.pack)) ∧ Mod S w w') := by
  have c0 : w.cell? ⟨bt, 0, none⟩ = some (.pointer (some ⟨t, 0, none⟩)) := one_block hbt 0
  have hbtw : bt < w.heap.size := (Array.getElem?_eq_some_iff.1 hbt).1
  have hblw : bl < w.heap.size := (Array.getElem?_eq_some_iff.1 hbl).1
  have hx9 : was.pack < 18446744073709551616 := by have := pack_lt was hw7 (by omega); omega
  have hl9 : l.pack < 18446744073709551616 := by have := pack_lt l h7 (by omega); omega
  have HUP := Lib.hid (unpack_pack was hw7)
  have HW := Lib.hid hw
  have HBT := Lib.hid hbt
  have HBL := Lib.hid hbl
  have HT := Lib.hid ht
  have HP := Lib.hid h
  clear hbt hbl hw h ht
  show Calls Tryz.prog 102 #[.int .i64 (f : Int), .int .i64 (k : Int), .pointer (some ⟨bt, 0, none⟩), .pointer (some ⟨bl, 0, none⟩)] w _
  go_enter Tryz.func102, Tryz.ntmps102
  go_wp2_with fail
  refine (tword_any t c a root f k w S p HP.out HT.out hf h1 hk).mono ?_
  rintro e w1 ⟨rfl, hb1⟩
  rw [HW.out]
  go_wp2_with fail
  refine (tunpack_any was.pack w1 hx9).mono ?_
  rintro e w2 ⟨rfl, hb2⟩
  rw [HUP.out]
  have hz1 := hb1.size
  have hz2 := hb2.size
  go_upto_region 2 with (fail)
  obtain ⟨w3, hw3⟩ : ∃ w3, w3 = w2.alloc (.cells #[.int .i64 (was.frame : Int), .int .u8 (was.prot : Int), .bool was.copy] 31) := ⟨_, rfl⟩
  rw [← hw3]
  have hB3 : Below w.heap.size w w3 := by rw [hw3]; exact (hb1.trans (hb2.mono hz1)).alloc (by omega) _
  have hW3 : LeafAt w3 w2.heap.size was := by rw [hw3]; exact heap_alloc_new _ _
  have hs3 : w2.heap.size < w3.heap.size := by rw [hw3]; simp
  have hP3 := HP.out.below hB3
  have hT3 : TabSelf w3 t c a root := (hB3.block t htw).trans HT.out
  have hPt3 : PtrAt w3 bt t := (hB3.block bt hbtw).trans HBT.out
  have hBl3 : LeafAt w3 bl l := (hB3.block bl hblw).trans HBL.out
  have hWS : ¬ S w2.heap.size := fun e => by have := HP.out.low _ e; omega
  clear hw3 c0
  have d0 : w3.cell? ⟨bt, 0, none⟩ = some (.pointer (some ⟨t, 0, none⟩)) := one_block hPt3 0
  have d1 : w3.cell? ⟨t, 1, none⟩ = some (.pointer (some ⟨a, 0, none⟩)) := one_block hT3 1
  have d2 : w3.cell? ⟨bl, 0, none⟩ = some (.int .i64 (l.frame : Int)) := one_block hBl3 0
  have HP3 := Lib.hid hP3
  have HT3 := Lib.hid hT3
  have HPt3 := Lib.hid hPt3
  have HBl3 := Lib.hid hBl3
  have HW3 := Lib.hid hW3
  clear hP3 hT3 hPt3 hBl3 hW3
  go_still_tail 6, (by kernel_rfl)
  go_wp2_with fail
  refine (up_yes a l.frame _ S p (HP3.out.drew) (by rw [takenB_nat]; exact decide_eq_true ⟨hlf, hlc⟩) hcap).mono ?_
  rintro e w4 ⟨rfl, hP4, hm4'⟩
  have hm4 := hm4'.undrew
  have hz4 := hm4.size
  have hs4 : w2.heap.size < w4.heap.size := by omega
  have hT4 : TabSelf w4 t c a root := (hm4.block t (by omega) htS).trans HT3.out
  have hPt4 : PtrAt w4 bt t := (hm4.block bt (by omega) hbtS).trans HPt3.out
  have hBl4 : LeafAt w4 bl l := (hm4.block bl (by omega) hblS).trans HBl3.out
  have hW4 : LeafAt w4 w2.heap.size was := (hm4.block _ hs3 hWS).trans HW3.out
  clear d0 d1 d2 hm4'
  have d0 : w4.cell? ⟨bt, 0, none⟩ = some (.pointer (some ⟨t, 0, none⟩)) := one_block hPt4 0
  have d1 : w4.cell? ⟨t, 1, none⟩ = some (.pointer (some ⟨a, 0, none⟩)) := one_block hT4 1
  have d2 : w4.cell? ⟨w2.heap.size, 0, none⟩ = some (.int .i64 (was.frame : Int)) := one_block hW4 0
  have HP4 := Lib.hid hP4
  have HT4 := Lib.hid hT4
  have HPt4 := Lib.hid hPt4
  have HBl4 := Lib.hid hBl4
  clear hP4 hT4 hPt4 hBl4 hW4
  go_upto_region 3 with (fail)
  go_still_tail 6, (by kernel_rfl)
  go_wp2_with fail
  refine (down_yes a was.frame _ S _ (HP4.out.drew) hwf (up_cnt p _ _ hwc)).mono ?_
  rintro e w5 ⟨rfl, hP5, hm5'⟩
  have hm5 := hm5'.undrew
  have hz5 := hm5.size
  have hT5 : TabSelf w5 t c a root := (hm5.block t (by omega) htS).trans HT4.out
  have hPt5 : PtrAt w5 bt t := (hm5.block bt (by omega) hbtS).trans HPt4.out
  have hBl5 : LeafAt w5 bl l := (hm5.block bl (by omega) hblS).trans HBl4.out
  clear d0 d1 d2 hm5'
  have d0 : w5.cell? ⟨bt, 0, none⟩ = some (.pointer (some ⟨t, 0, none⟩)) := one_block hPt5 0
  have d1 : w5.cell? ⟨bl, 0, none⟩ = some (.int .i64 (l.frame : Int)) := one_block hBl5 0
  have d2 : w5.cell? ⟨bl, 1, none⟩ = some (.int .u8 (l.prot : Int)) := one_block hBl5 1
  have d3 : w5.cell? ⟨bl, 2, none⟩ = some (.bool l.copy) := one_block hBl5 2
  have HP5 := Lib.hid hP5
  have HT5 := Lib.hid hT5
  have hbt5 : bt < w5.heap.size := by omega
  have hbl5 : bl < w5.heap.size := by omega
  clear hP5 hT5 hPt5 hBl5
  go_upto_region 4 with (fail)
  go_region_with
    ((first
      | (go_at_call 91; refine (tpack_any l _ h7 (by omega)).mono ?_; rintro e w6 ⟨rfl, hb6'⟩; have hb6 : Below w5.heap.size w5 w6 := below_undrew hb6'; have d0' : w6.cell? ⟨bt, 0, none⟩ = some (.pointer (some ⟨t, 0, none⟩)) := (hb6.cell (p := ⟨bt, 0, none⟩) hbt5).trans d0)
      | (go_at_call 90; refine (tput_any t c a root f k l.pack _ S _ (HP5.out.below hb6) ((hb6.block t (by omega)).trans HT5.out) (by have := hb6.size; omega) hf hfc hk hl9).mono ?_; rintro e w7 ⟨rfl, hP7, hm7⟩)))
  all_goals
    go_wp2_with fail
    go_ret
    exact ⟨rfl, hP7, (Mod.of hB3).trans (Out.refl _ _) (hm4.trans (Out.refl _ _) (hm5.trans (Out.refl _ _) ((Mod.of hb6).trans (Out.refl _ _) hm7)))⟩

set_option maxRecDepth 100000 in
set_option maxHeartbeats 2000000 in
theorem tat_set (t c a root : Nat) (A : Int) (bt bl : Nat)(R : World → World → Prop) (w : World) (S : Nat → Prop) (p : Pool) (T : Tab) (h : PoolAt w S a p) (ht : TabSelf w t c a root) (htw : t < w.heap.size) (hw : Way p T (A.toNat / 4096)) (hups : ∀ m, 1 ≤ m → m ≤ 4 → (T.nd m (part (A.toNat / 4096) m)).isSome = true) (l : Leaf) (q1 : Nat) (hlf : T.lf (A.toNat / 4096) = some l) (hq1 : T.nd 1 (part (A.toNat / 4096) 1) = some q1)
    (hcl : ∀ w1, Below w.heap.size w w1 → Calls Tryz.prog 102 (#[.int .i64 (q1 : Int), .int .i64 ((num (A.toNat / 4096) 1 : Nat) : Int)] ++ #[.pointer (some ⟨bt, 0, none⟩), .pointer (some ⟨bl, 0, none⟩)]) w1 fun e w2 => e = .returned (.bool false) ∧ R w1 w2)
    (hr : T.nd 4 (part (A.toNat / 4096) 4) = some root) (hA0 : 0 ≤ A) (hA : A < 140737488355328) :
    Calls Tryz.prog 92 #[.pointer (some ⟨t, 0, none⟩), .int .u64 A, .func (.func 102) #[] #[.pointer (some ⟨bt, 0, none⟩), .pointer (some ⟨bl, 0, none⟩)]] w fun e w' => e = .returned (.int .i64 0) ∧ ∃ w1, Below w.heap.size w w1 ∧ R w1 w' := by
  have c2 : w.cell? ⟨t, 2, none⟩ = some (.int .i64 (root : Int)) := one_block ht 2
  have HT := Lib.hid ht
  have HP := Lib.hid h
  have HL := Lib.hid hlf
  have HQ := Lib.hid hq1
  have HCL := Lib.hid hcl
  have HU := Lib.hid hups
  have HR := Lib.hid hr
  have HW := Lib.hid hw
  have hA' : A < 18446744073709551616 := by omega
  have HA' := Lib.hid hA'
  clear ht h hlf hq1 hcl hups hr hA' hw
  go_enter Tryz.func92, Tryz.ntmps92
  go_wp2_with fail
  refine (tgone_any t c a root _ HT.out).mono ?_
  rintro e w1 ⟨rfl, rfl⟩
  go_wp2_with fail
  go_region_with
    ((first
      | (go_at_call 86; refine (way_int A _ hA0 HA'.out).mono ?_; rintro e w1 ⟨rfl, hb1⟩; have hb1' : Below w.heap.size w w1 := ((Below.refl w.heap.size w).drew).trans hb1; have c2' : w1.cell? ⟨t, 2, none⟩ = some (.int .i64 (root : Int)) := one_block ((hb1'.block t htw).trans HT.out) 2)
      | (go_at_call 87; refine (descend_set4 t c a root root (A.toNat / 4096) bt bl R _ S p T (HP.out.below hb1') ((hb1'.block t htw).trans HT.out) (Nat.lt_of_lt_of_le htw hb1'.size) HW.out HU.out l q1 HL.out HQ.out (fun w5 hw5 => HCL.out w5 (hb1'.trans (hw5.mono hb1'.size))) HR.out).mono ?_; rintro e w2 ⟨rfl, w5, hb5, hR⟩)))
  all_goals
    go_wp2_with fail
    go_ret
    exact ⟨rfl, w5, hb1'.trans (hb5.mono hb1'.size), hR⟩


end Go.Proofs.YtmkgdgfbdmjeeaaGreatDoor
