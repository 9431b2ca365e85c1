/- Tables: Unmap's closure, descend with it. Tables: descend with Unmap's closure, at with it, Unmap. Tables: at with Unmap's closure, Unmap. -/
import Derived.Test.YtkkmcnngpahfaaaGreatDoorTtZ
import Derived.Test.YtkkmcnngpahfaaaGreatDoorTbA
import Derived.StillTailTactics
import Derived.Deep.QuietTactic
import Derived.BigQuiet
import Derived.Lib.QuietBelow

namespace Go.Proofs.YtkkmcnngpahfaaaGreatDoor
open Go.RowKit
set_option linter.unusedSimpArgs false
set_option linter.unusedVariables false

theorem field_leaf (x y z : Value) (W : World) : (Instr.field 31 (.agg #[x, y, z]) 0).run Tryz.prog W = .ok x W := by kernel_rfl

set_option maxRecDepth 100000 in
set_option maxHeartbeats 2000000 in
theorem unmap_cl (t c a root f k bt : Nat) (was : Leaf) (w : World) (S : Nat → Prop) (p : Pool) (h : PoolAt w S a p) (ht : TabSelf w t c a root) (htS : ¬ S t) (htw : t < w.heap.size) (hbt : PtrAt w bt t) (hbtS : ¬ S bt)
    (hf : f < p.n) (h1 : 1 ≤ p.cnt f) (hk : k < 512) (hw : word (p.dat f) k = was.pack) (hw7 : was.prot ≤ 7) (hwf : was.frame < p.n) (hwc : 1 ≤ p.cnt was.frame) (hn : p.n ≤ 1024)
    (hfc : 1 ≤ (p.down was.frame).cnt f) :
    Calls Tryz.prog 89 (#[.int .i64 (f : Int), .int .i64 (k : Int)] ++ #[.pointer (some ⟨bt, 0, none⟩)]) w
      fun e w' => e = .returned (.bool true) ∧ (PoolAt w' S a ((p.down was.frame).store f (setWord (p.dat f) k 0)) ∧ Mod S w w') := by
  have c0 : w.cell? ⟨bt, 0, none⟩ = some (.pointer (some ⟨t, 0, none⟩)) := one_block hbt 0
  have c1 : w.cell? ⟨t, 1, none⟩ = some (.pointer (some ⟨a, 0, none⟩)) := one_block ht 1
  have hbtw : bt < w.heap.size := (Array.getElem?_eq_some_iff.1 hbt).1
  have hx9 : was.pack < 18446744073709551616 := by have := pack_lt was hw7 (by omega); omega
  have hfl := field_leaf (.int .i64 (was.frame : Int)) (.int .u8 (was.prot : Int)) (.bool was.copy)
  have HUP := Lib.hid (unpack_pack was hw7)
  have HW := Lib.hid hw
  have HBT := Lib.hid hbt
  have HT := Lib.hid ht
  have HP := Lib.hid h
  clear hbt hw h ht
  show Calls Tryz.prog 89 #[.int .i64 (f : Int), .int .i64 (k : Int), .pointer (some ⟨bt, 0, none⟩)] w _
  go_enter Tryz.func89, Tryz.ntmps89
  go_upto_region 1 with (fail)
  go_region_with
    ((first
      | (go_at_call 77; refine (tword_any t c a root f k _ S p HP.out.drew HT.out hf h1 hk).mono ?_; rintro e w1 ⟨rfl, hb1'⟩; have hb1 : Below w.heap.size w w1 := below_undrew hb1'; rw [HW.out]; have e0 : w1.cell? ⟨bt, 0, none⟩ = some (.pointer (some ⟨t, 0, none⟩)) := (hb1.cell (p := ⟨bt, 0, none⟩) hbtw).trans c0; have e1 : w1.cell? ⟨t, 1, none⟩ = some (.pointer (some ⟨a, 0, none⟩)) := (hb1.cell (p := ⟨t, 1, none⟩) htw).trans c1)
      | (go_at_call 82; refine (tunpack_any was.pack w1 hx9).mono ?_; rintro e w2 ⟨rfl, hb2'⟩; rw [HUP.out]; have hb2 : Below w.heap.size w w2 := hb1.trans (hb2'.mono hb1.size); have g0 : w2.cell? ⟨bt, 0, none⟩ = some (.pointer (some ⟨t, 0, none⟩)) := (hb2.cell (p := ⟨bt, 0, none⟩) hbtw).trans c0; have g1 : w2.cell? ⟨t, 1, none⟩ = some (.pointer (some ⟨a, 0, none⟩)) := (hb2.cell (p := ⟨t, 1, none⟩) htw).trans c1)
      | (go_at_call 38; refine (down_yes a was.frame _ S _ (HP.out.below hb2) hwf hwc).mono ?_; rintro e w3 ⟨rfl, hP3, hm3⟩)))
  all_goals
    have hT3 : TabSelf w3 t c a root := (hm3.block t (Nat.lt_of_lt_of_le htw hb2.size) htS).trans ((hb2.block t htw).trans HT.out)
    have hPt3 : PtrAt w3 bt t := (hm3.block bt (Nat.lt_of_lt_of_le hbtw hb2.size) hbtS).trans ((hb2.block bt hbtw).trans HBT.out)
    have k0 : w3.cell? ⟨bt, 0, none⟩ = some (.pointer (some ⟨t, 0, none⟩)) := one_block hPt3 0
    have hz : w.heap.size ≤ w3.heap.size := Nat.le_trans hb2.size hm3.size
    have HP3 := Lib.hid hP3
    have HT3 := Lib.hid hT3
    clear hP3 hT3 hPt3
    go_wp2_with fail
    refine (tput_any t c a root f k 0 w3 S _ HP3.out HT3.out (Nat.lt_of_lt_of_le htw hz) hf hfc hk (by omega)).mono ?_
    rintro e w4 ⟨rfl, hP4, hm4⟩
    go_wp2_with fail
    go_ret
    exact ⟨rfl, hP4, (Mod.of hb2).trans (Out.refl _ _) (hm3.trans (Out.refl _ _) hm4)⟩

end Go.Proofs.YtkkmcnngpahfaaaGreatDoor

namespace Go.Proofs.YtkkmcnngpahfaaaGreatDoor
open Go.RowKit Go.Sort
set_option linter.unusedSimpArgs false
set_option linter.unusedVariables false

theorem safe_down {p : Pool} {x g : Nat} (h : 2 ≤ p.cnt g ∨ (g ≠ x ∧ 1 ≤ p.cnt g)) : 1 ≤ (p.down x).cnt g := by
  rcases h with h | ⟨h2, h3⟩
  · by_cases e : g = x
    · subst e; simp only [Pool.down, upd_same]; omega
    · simp only [Pool.down, upd_ne _ _ e]; omega
  · simp only [Pool.down, upd_ne _ _ h2]; omega

def DescUn (LV : Nat) (D : Int) : Prop := ∀ (t c a root f pg bt : Nat) (rest : Nat → Nat) (pg0 : Nat) (was : Leaf) (w : World) (S : Nat → Prop) (p : Pool) (T : Tab), PoolAt w S a p → TabSelf w t c a root → t < w.heap.size → Way p T pg → ¬ S t → PtrAt w bt t → ¬ S bt → T.Good p rest pg0 4 → T.lf pg = some was → T.nd LV (part pg LV) = some f →
  Calls Tryz.prog 75 #[.pointer (some ⟨t, 0, none⟩), .int .i64 (f : Int), wayA pg, .int .i64 D, .func (.func 89) #[] #[.pointer (some ⟨bt, 0, none⟩)]] w fun e w' => e = .returned (.tuple #[.bool true, .bool true]) ∧ ∃ p' T', PoolAt w' S a p' ∧ Mod S w w' ∧ Gone p T rest pg LV p' T'
set_option maxRecDepth 100000 in
set_option maxHeartbeats 2000000 in
theorem desc_un1 : DescUn 1 3 := by
  intro t c a root f pg bt rest pg0 was w S p T h ht htw hw htS hbt hbtS hgood hlf hf
  obtain ⟨f1, f2, f3⟩ := hw.node 1 f (by omega) (by omega) hf
  obtain ⟨w0, hw0, hB0, hP0, hT0, hX0, hs0', htw0⟩ := path_start pg h ht htw
  obtain ⟨c0, c1, c2, c3⟩ := hX0.cells
  have hn := num_lt pg 1
  have hbtw : bt < w.heap.size := (Array.getElem?_eq_some_iff.1 hbt).1
  obtain ⟨x, hx⟩ : ∃ x, x = was.pack := ⟨_, rfl⟩
  have E0 := Lib.hid (show word (p.dat f) (num pg 1) = was.pack by rw [f3, Tab.on_one, hlf])
  obtain ⟨p7, pf, pc⟩ := hgood.leafOf hlf
  have hfew := hw.few
  have hx9 : x < 18446744073709551616 := by rw [hx]; have := pack_lt was p7 (by omega); omega
  have hodd := and_odd hx9 (by rw [hx]; exact pack_odd was)
  have hfc := safe_down (hgood.safe hlf hf)
  have HW0 := Lib.hid hw0
  have HF := Lib.hid hf
  have HL := Lib.hid hlf
  have HGD := Lib.hid hgood
  have HBT := Lib.hid hbt
  have HX := Lib.hid hx
  clear f3 hf hw0 h ht hlf hgood hbt hx
  unfold wayA
  go_enter Tryz.func75, Tryz.ntmps75
  go_upto_region 1 with (fail)
  rw [← HW0.out]
  go_wp2_with fail
  refine (tword_any t c a root f _ w0 S p hP0 hT0 f1 f2 (num_lt pg _)).mono ?_
  rintro e w1 ⟨rfl, hb1⟩
  rw [E0.out, ← HX.out]
  have hz1 := hb1.size
  have hBw : Below w.heap.size w w1 := hB0.trans (hb1.mono (Nat.le_of_lt hs0'))
  have HPw1 := Lib.hid (hP0.below hb1)
  have HBt1 := Lib.hid (show PtrAt w1 bt t from (hBw.block bt hbtw).trans HBT.out)
  have HT1 := Lib.hid (show TabSelf w1 t c a root from (hb1.block t htw0).trans hT0)
  clear hP0 hT0
  go_wp2_with fail
  refine (unmap_cl t c a root f (num pg 1) bt was w1 S p HPw1.out HT1.out htS (Nat.lt_of_lt_of_le htw0 hz1) HBt1.out hbtS f1 f2 hn E0.out p7 pf pc hfew hfc).mono ?_
  rintro e w2 ⟨rfl, hP2, hm2⟩
  go_wp2_with fail
  go_ret2
  exact ⟨rfl, _, _, hP2, (Mod.of hBw).trans (Out.refl _ _) hm2, Gone.start HGD.out HL.out HF.out⟩
set_option maxRecDepth 100000 in
set_option maxHeartbeats 8000000 in
theorem desc_unS {LV LW : Nat} {D E : Int} (hc : DescCase LV LW D E) (ih : DescUn LW E) : DescUn LV D := by
  intro t c a root f pg bt rest pg0 was w S p T h ht htw hw htS hbt hbtS hgood hlf hf
  obtain ⟨f1, f2, f3⟩ := hw.node LV f (by have := hc.nums; omega) (by have := hc.nums; omega) hf
  obtain ⟨w0, hw0, hB0, hP0, hT0, hX0, hs0', htw0⟩ := path_start pg h ht htw
  obtain ⟨c0, c1, c2, c3⟩ := hX0.cells
  have hbtw : bt < w.heap.size := (Array.getElem?_eq_some_iff.1 hbt).1
  obtain ⟨g, hg⟩ : ∃ g, T.nd LW (part pg LW) = some g := isSome_of (hgood.ok.leafUp hlf LW (by have := hc.nums; omega) (by have := hc.nums; omega))
  obtain ⟨g1, g2, _⟩ := hw.node LW g (by have := hc.nums; omega) (by have := hc.nums; omega) hg
  have hfew := hw.few
  obtain ⟨x, hx⟩ : ∃ x, x = g * 4096 + 1 := ⟨_, rfl⟩
  have e0 := on_some hc f3 hg
  rw [← hx] at e0
  have E0 := Lib.hid e0
  have hx9 : x < 18446744073709551616 := by omega
  have hodd := and_odd hx9 (by omega)
  have HSH := Lib.hid (show ((x : Int) / 4096) = (g : Int) by omega)
  have HG := Lib.hid hg
  have HW0 := Lib.hid hw0
  have HF := Lib.hid hf
  have HL := Lib.hid hlf
  have HGD := Lib.hid hgood
  have HBT := Lib.hid hbt
  have IH := Lib.hid ih
  clear f3 hf hw0 h ht hg ih e0 hx hlf hgood hbt
  unfold wayA
  rcases hc with ⟨rfl, rfl, rfl, rfl⟩ | ⟨rfl, rfl, rfl, rfl⟩ | ⟨rfl, rfl, rfl, rfl⟩ <;> (
    go_enter Tryz.func75, Tryz.ntmps75
    go_upto_region 1 with (fail)
    rw [← HW0.out]
    go_wp2_with fail
    refine (tword_any t c a root f _ w0 S p hP0 hT0 f1 f2 (num_lt pg _)).mono ?_
    rintro e w1 ⟨rfl, hb1⟩
    rw [E0.out]
    have hz1 := hb1.size
    obtain ⟨d0, d1, d2, d3⟩ := PathAt.cells ((hb1.block _ hs0').trans hX0)
    have hBw : Below w.heap.size w w1 := hB0.trans (hb1.mono (Nat.le_of_lt hs0'))
    have htw1 : t < w1.heap.size := Nat.lt_of_lt_of_le htw0 hz1
    have HT1 := Lib.hid (show TabSelf w1 t c a root from (hb1.block t htw0).trans hT0)
    have HPw1 := Lib.hid (hP0.below hb1)
    have HBt1 := Lib.hid (show PtrAt w1 bt t from (hBw.block bt hbtw).trans HBT.out)
    clear c0 c1 c2 c3 hP0 hT0 hX0
    go_wp2_with fail
    rw [HSH.out]
    refine (IH.out t c a root g pg bt rest pg0 was w1 S p T HPw1.out HT1.out htw1 hw htS HBt1.out hbtS HGD.out HL.out HG.out).mono ?_
    rintro e w2 ⟨rfl, p2, T2, hP2, hm2, hG2⟩
    have hz2 := hm2.size
    have hT2 : TabSelf w2 t c a root := (hm2.block t htw1 htS).trans HT1.out
    have htop := (hG2.top _ _ (Nat.le_refl _)).trans HG.out
    have htopf := (hG2.top _ _ (by omega)).trans HF.out
    obtain ⟨n1, n2⟩ := hG2.good.node htop
    obtain ⟨m1, m2⟩ := hG2.good.node htopf
    have HG2 := Lib.hid hG2
    have HTOP := Lib.hid htop
    have HTOPF := Lib.hid htopf
    have HP2 := Lib.hid hP2
    have HT2 := Lib.hid hT2
    have htw2 : t < w2.heap.size := by omega
    clear hG2 htop htopf hP2 hT2 d0 d1 d2 d3
    go_wp2_with fail
    refine (tempty_any t c a root g w2 S p2 HP2.out HT2.out n1 n2).mono ?_
    rintro e w3 ⟨rfl, hb3⟩
    have hz3 := hb3.size
    have htw3 : t < w3.heap.size := by omega
    have HT3 := Lib.hid (show TabSelf w3 t c a root from (hb3.block t htw2).trans HT2.out)
    have HP3 := Lib.hid (HP2.out.below hb3)
    have hmall : Mod S w w3 := (Mod.of hBw).trans (Out.refl _ _) (hm2.trans (Out.refl _ _) (Mod.of hb3))
    by_cases hez : ∀ i, i < 4096 → p2.dat g i = 0
    · have hzz : allZero (p2.dat g) 4096 = true := decide_eq_true hez
      have HEZ := Lib.hid hez
      clear hez
      go_wp2_with fail
      refine (tput_any t c a root f _ 0 w3 S p2 HP3.out HT3.out htw3 m1 m2 (num_lt pg _) (by omega)).mono ?_
      rintro e w4 ⟨rfl, hP4, hm4⟩
      have hz4 := hm4.size
      have hT4 : TabSelf w4 t c a root := (hm4.block t htw3 htS).trans HT3.out
      have d4 : w4.cell? ⟨t, 1, none⟩ = some (.pointer (some ⟨a, 0, none⟩)) := one_block hT4 1
      have HP4 := Lib.hid hP4
      clear hP4 hT4
      go_wp2_with fail
      refine (down_yes a g _ S _ HP4.out n1 n2).mono ?_
      rintro e w5 ⟨rfl, hP5, hm5⟩
      go_wp2_with fail
      go_ret2
      exact ⟨rfl, _, _, hP5, hmall.trans (Out.refl _ _) (hm4.trans (Out.refl _ _) hm5), HG2.out.prune (by omega) (by omega) HTOP.out HTOPF.out HEZ.out⟩
    · have hzz : allZero (p2.dat g) 4096 = false := decide_eq_false hez
      have HEZ := Lib.hid hez
      clear hez
      go_wp2_with fail
      go_ret2
      exact ⟨rfl, _, _, HP3.out, hmall, HG2.out.keep HTOP.out HEZ.out _ (by omega)⟩)
theorem descend_un4 : DescUn 4 0 := desc_unS (.inr (.inr ⟨rfl, rfl, rfl, rfl⟩)) (desc_unS (.inr (.inl ⟨rfl, rfl, rfl, rfl⟩)) (desc_unS (.inl ⟨rfl, rfl, rfl, rfl⟩) desc_un1))

end Go.Proofs.YtkkmcnngpahfaaaGreatDoor

namespace Go.Proofs.YtkkmcnngpahfaaaGreatDoor
open Go.RowKit Go.Sort
set_option linter.unusedSimpArgs false
set_option linter.unusedVariables false

/-- What Unmap comes to. -/
def UnRes (p : Pool) (T : Tab) (rest : Nat → Nat) (A : Int) (r : Int) (p' : Pool) (T' : Tab) : Prop :=
  (r ≠ 0 ∧ p' = p ∧ T' = T ∧ (r = 1 ∧ 140737488355328 ≤ A ∨ r = 6 ∧ A < 140737488355328 ∧ T.lf (A.toNat / 4096) = none)) ∨
  (r = 0 ∧ A < 140737488355328 ∧ (T.lf (A.toNat / 4096)).isSome = true ∧ Gone p T rest (A.toNat / 4096) 4 p' T')
def UnPost (w : World) (S : Nat → Prop) (a : Nat) (p : Pool) (T : Tab) (rest : Nat → Nat) (A : Int) (e : Ending) (w' : World) : Prop :=
  ∃ r p' T', e = .returned (.int .i64 r) ∧ PoolAt w' S a p' ∧ Mod S w w' ∧ UnRes p T rest A r p' T'

set_option maxRecDepth 100000 in
set_option maxHeartbeats 2000000 in
theorem tat_un (t c a root bt : Nat) (A : Int) (w : World) (S : Nat → Prop) (p : Pool) (T : Tab) (rest : Nat → Nat) (pg0 : Nat) (was : Leaf) (h : PoolAt w S a p) (ht : TabSelf w t c a root) (htS : ¬ S t) (hbt : PtrAt w bt t) (hbtS : ¬ S bt) (hgood : T.Good p rest pg0 4)
    (hlf : T.lf (A.toNat / 4096) = some was) (hr : T.nd 4 (part (A.toNat / 4096) 4) = some root) (hA0 : 0 ≤ A) (hA : A < 140737488355328) :
    Calls Tryz.prog 80 #[.pointer (some ⟨t, 0, none⟩), .int .u64 A, .func (.func 89) #[] #[.pointer (some ⟨bt, 0, none⟩)]] w
      fun e w' => e = .returned (.int .i64 0) ∧ ∃ p' T', PoolAt w' S a p' ∧ Mod S w w' ∧ Gone p T rest (A.toNat / 4096) 4 p' T' := by
  have htw : t < w.heap.size := (Array.getElem?_eq_some_iff.1 ht).1
  have hbtw : bt < w.heap.size := (Array.getElem?_eq_some_iff.1 hbt).1
  have c2 : w.cell? ⟨t, 2, none⟩ = some (.int .i64 (root : Int)) := one_block ht 2
  have hw := hgood.way (A.toNat / 4096)
  have HT := Lib.hid ht
  have HP := Lib.hid h
  have HL := Lib.hid hlf
  have HR := Lib.hid hr
  have HW := Lib.hid hw
  have HGD := Lib.hid hgood
  have HBT := Lib.hid hbt
  have hA' : A < 18446744073709551616 := by omega
  have HA' := Lib.hid hA'
  clear ht h hlf hr hA' hw hgood hbt
  go_enter Tryz.func80, Tryz.ntmps80
  go_wp2_with fail
  refine (tgone_any t c a root _ HT.out).mono ?_
  rintro e w1 ⟨rfl, rfl⟩
  go_wp2_with fail
  go_region_with
    ((first
      | (go_at_call 74; refine (way_int A _ hA0 HA'.out).mono ?_; rintro e w1 ⟨rfl, hb1⟩; have hb1' : Below w.heap.size w w1 := ((Below.refl w.heap.size w).drew).trans hb1; have c2' : w1.cell? ⟨t, 2, none⟩ = some (.int .i64 (root : Int)) := one_block ((hb1'.block t htw).trans HT.out) 2)
      | (go_at_call 75; refine (descend_un4 t c a root root (A.toNat / 4096) bt rest pg0 was _ S p T (HP.out.below hb1') ((hb1'.block t htw).trans HT.out) (Nat.lt_of_lt_of_le htw hb1'.size) HW.out htS ((hb1'.block bt hbtw).trans HBT.out) hbtS HGD.out HL.out HR.out).mono ?_; rintro e w2 ⟨rfl, p2, T2, hP2, hm2, hG2⟩)))
  all_goals
    go_wp2_with fail
    go_ret
    exact ⟨rfl, p2, T2, hP2, (Mod.of hb1').trans (Out.refl _ _) hm2, hG2⟩

theorem tat_unres (t c a root bt : Nat) (A : Int) (w : World) (S : Nat → Prop) (p : Pool) (T : Tab) (rest : Nat → Nat) (pg0 : Nat) (h : PoolAt w S a p) (ht : TabSelf w t c a root) (htS : ¬ S t) (hbt : PtrAt w bt t) (hbtS : ¬ S bt) (hgood : T.Good p rest pg0 4)
    (hr : T.nd 4 0 = some root) (hA0 : 0 ≤ A) :
    Calls Tryz.prog 80 #[.pointer (some ⟨t, 0, none⟩), .int .u64 A, .func (.func 89) #[] #[.pointer (some ⟨bt, 0, none⟩)]] w (UnPost w S a p T rest A) := by
  have htw : t < w.heap.size := (Array.getElem?_eq_some_iff.1 ht).1
  have hw := hgood.tree hr
  by_cases hbig : 140737488355328 ≤ A
  · exact (tat_big t c a root A _ w ht hbig).mono fun e w' ⟨he, hw'⟩ => by
      subst hw'
      exact ⟨1, p, T, he, h, Mod.refl _ _, .inl ⟨by decide, rfl, rfl, .inl ⟨rfl, hbig⟩⟩⟩
  · have hlt : A < 140737488355328 := by omega
    have htop := hw.top hA0 hlt
    have hwy := hw.way (A.toNat / 4096)
    cases hlf2 : T.lf (A.toNat / 4096) with
    | none => exact (tat_none t c a root A _ w S p T h ht htw hwy hlf2 htop hA0 hlt).mono fun e w' ⟨he, hb⟩ => ⟨6, p, T, he, h.below hb, Mod.of hb, .inl ⟨by decide, rfl, rfl, .inr ⟨rfl, hlt, hlf2⟩⟩⟩
    | some was => exact (tat_un t c a root bt A w S p T rest pg0 was h ht htS hbt hbtS hgood hlf2 htop hA0 hlt).mono fun e w' ⟨he, p', T', h1, h2, h3⟩ => ⟨0, p', T', he, h1, h2, .inr ⟨rfl, hlt, by rw [hlf2]; rfl, h3⟩⟩

set_option maxHeartbeats 2000000 in
theorem tunmap_any (t c a root : Nat) (A : Int) (w : World) (S : Nat → Prop) (p : Pool) (T : Tab) (rest : Nat → Nat) (pg0 : Nat) (h : PoolAt w S a p) (ht : TabSelf w t c a root) (htS : ¬ S t) (hgood : T.Good p rest pg0 4) (hr : T.nd 4 0 = some root) (hA0 : 0 ≤ A) :
    Calls Tryz.prog 32 #[.pointer (some ⟨t, 0, none⟩), .int .u64 A] w (UnPost w S a p T rest A) := by
  have htw : t < w.heap.size := (Array.getElem?_eq_some_iff.1 ht).1
  obtain ⟨w0, hw0⟩ : ∃ w0, w0 = w.alloc (.cells #[.pointer (some ⟨t, 0, none⟩)] 54) := ⟨_, rfl⟩
  have hB0 : Below w.heap.size w w0 := by rw [hw0]; exact (Below.refl _ _).alloc (Nat.le_refl _) _
  have hPt : PtrAt w0 w.heap.size t := by rw [hw0]; exact heap_alloc_new w _
  have hbS : ¬ S w.heap.size := fun e => by have := h.low _ e; omega
  have hres := tat_unres t c a root w.heap.size A w0 S p T rest pg0 (h.below hB0) ((hB0.block t htw).trans ht) htS hPt hbS hgood hr hA0
  have d0 : w0.cell? ⟨w.heap.size, 0, none⟩ = some (.pointer (some ⟨t, 0, none⟩)) := one_block hPt 0
  have HRES := Lib.hid hres
  have HW0 := Lib.hid hw0
  clear hres hw0 hPt h ht hgood hr
  go_enter Tryz.func32, Tryz.ntmps32
  go_upto_region 1 with (fail)
  rw [← HW0.out]
  go_wp2_with fail
  refine (HRES.out).mono ?_
  rintro e w2 ⟨r, p', T', rfl, h1, h2, h3⟩
  go_wp2_with fail
  go_ret
  exact ⟨r, p', T', rfl, h1, (Mod.of hB0).trans (Out.refl _ _) h2, h3⟩

end Go.Proofs.YtkkmcnngpahfaaaGreatDoor
